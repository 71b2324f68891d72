/-
  What the law of sampled prints draws: a grid and a print.
-/
import Derived.Test.YtflpllmbpfdnjaaBx
import Derived.Test.YtflpllmbpfdnjaaLst
import Derived.Test.YtflpllmbpfdnjaaToS
import Derived.Test.YtflpllmbpfdnjaaC14B
import Derived.Deep.RegionHeld3
import Derived.Test.YtflpllmbpfdnjaaDq
import Derived.Deep.RegionWith
namespace Go.Proofs.Ytflpllmbpfdnjaa
set_option linter.unusedSimpArgs false
open Go.RowKit

theorem pick_lit {W : World} {g t k : Nat} {cs : Array Value} {v : Value} (hh : W.heap[g]? = some (.cells cs t (0, 0))) (h : cs[k]? = some v) : W.cell? ⟨g, k, none⟩ = some v := (blk_cell hh k).trans h
theorem Own.bx {s : SP} {B : Nat} {v : Value} {xs : List Int} {w w' : World} (h : Own w B v xs) (hb : BX s w.heap.size w w') (hs : s.b < B) : Own w' B v xs := by
  refine ⟨h.1, ?_⟩
  rcases h.2 with h' | ⟨g, cap, cur, rfl, hB, hg, hr⟩
  · exact .inl h'
  · exact .inr ⟨g, cap, cur, rfl, hB, (hb.block g (lt_of_block hg) (by omega)).trans hg, hr⟩

theorem pick_in {xs : List Int} {lo hi : Int} (hx : allIn lo hi xs = true) {r : Int} (h0 : 0 ≤ r) (h1 : r < xs.length) : ∃ (R : Nat) (v : Int), r = R ∧ R < xs.length ∧ (xs.map (Value.int .i64)).toArray[R]? = some (.int .i64 v) ∧ lo ≤ v ∧ v ≤ hi := by
  obtain ⟨R, rfl⟩ := Int.eq_ofNat_of_zero_le h0
  have hR : R < xs.length := by omega
  have := allIn_nth hx hR
  exact ⟨R, nth xs R, rfl, hR, by simpa using nth_map xs R hR, this.1, this.2⟩

/-- What a grid that is drawn looks like. -/
def DGB (w : World) (B : Nat) (u : Value) : Prop := ∃ (r c : Int) (v : Value) (xs : List Int), u = .agg #[.int .i64 r, .int .i64 c, v] ∧ 1 ≤ xs.length ∧ xs.length ≤ 1700 ∧ Own w B v xs ∧ -2 ≤ r ∧ r ≤ 40001 ∧ -2 ≤ c ∧ c ≤ 40001
set_option maxRecDepth 20000 in
set_option maxHeartbeats 4000000 in
theorem l14DrawGrid_any (b : Nat) (A : Option Addr) (n c : Nat) (bs : List Int) (B : Nat) (w : World) (hI : (srcP 124 b A n c bs B).I w) :
    Calls Try.prog 92 #[.pointer (some ⟨b, 0, none⟩)] w fun e w' =>
      ∃ u, e = .returned u ∧ DGB w' w.heap.size u ∧ BX (srcP 124 b A n c bs B) w.heap.size w w' := by
  obtain ⟨i0, hi⟩ := info_own' info_i64s
  have HI0 := Lib.hid (And.intro i0.bytes.le_refl hi)
  have hbw := srcP_lt hI
  have hbw0 : b < w.heap.size + 1 := by omega
  have HI := Lib.hid hI
  clear hI hi
  go_enter Try.func92, Try.ntmps92
  go_wp2_with fail
  (go_at_call 79; with_reducible refine (draw_any b A n c bs B (6) _ (bxinv (B := w.heap.size) ?_ HI) (by omega)).mono ?_; (focus (repeat (first | (with_reducible assumption) | (with_reducible exact BX.refl _ _ _) | (with_reducible refine BX.drewN ?_ _) | (with_reducible refine BX.drew ?_) | ((with_reducible refine BX.alloc ?_ ?_ _); rotate_left; (focus (first | (simp; done) | omega | (simp; omega) | (simp [srcP]; done) | (simp [srcP]; omega)))) | ((with_reducible refine BX.setCell ?_ ?_ ?_ _); rotate_left; (focus (first | (simp; done) | omega | (simp; omega) | (simp [srcP]; done) | (simp [srcP]; omega))); (focus (first | (simp; done) | omega | (simp; omega) | (simp [srcP]; done) | (simp [srcP]; omega))))))); rintro e1 w1 ⟨u1, rfl, ⟨r1, rfl, hr1a, hr1b⟩, hb1⟩; have hB1 : BX (srcP 124 b A n c bs B) w.heap.size w w1 := BX.then (by (repeat (first | (with_reducible assumption) | (with_reducible exact BX.refl _ _ _) | (with_reducible refine BX.drewN ?_ _) | (with_reducible refine BX.drew ?_) | ((with_reducible refine BX.alloc ?_ ?_ _); rotate_left; (focus (first | (simp; done) | omega | (simp; omega) | (simp [srcP]; done) | (simp [srcP]; omega)))) | ((with_reducible refine BX.setCell ?_ ?_ ?_ _); rotate_left; (focus (first | (simp; done) | omega | (simp; omega) | (simp [srcP]; done) | (simp [srcP]; omega))); (focus (first | (simp; done) | omega | (simp; omega) | (simp [srcP]; done) | (simp [srcP]; omega))))))) (by first | omega | (simp; done) | (simp; omega)) hb1; have hc1 := bxcell hb1; have hf1 := bxfrozen hb1; simp only [srcP_b] at hc1 hf1; have hz1a : w.heap.size < w1.heap.size := (by have := hb1.size; first | omega | (simp at this; omega)))
  (have hh1 := Lib.hid (show w1.heap[w.heap.size]? = some (.cells #[.int .i64 0, .int .i64 0, .slice none 0 0] 41 (0, 0)) from (hb1.block (w.heap.size) (by first | omega | (simp; done) | (simp; omega) | (simp [srcP]; omega)) (by first | omega | (simp; done) | (simp; omega) | (simp [srcP]; omega))).trans (by repeat (first | (with_reducible exact rfl) | (with_reducible exact heap_alloc_new _ _) | (rw [heap_drew1]) | (rw [heap_drewN1]) | (rw [Below.heap_setCell _ _ _ _ (by first | omega | (simp; done) | (simp; omega) | (simp [srcP]; omega))]) | (rw [Below.heap_alloc _ _ _ (by first | omega | (simp; done) | (simp; omega) | (simp [srcP]; omega))])))))
  have hs1 := hb1.size
  simp only [World.size_alloc] at hs1
  have hbw1 : b < w1.heap.size := by omega
  clear hc1 hf1
  go_wp2_with fail
  (go_at_call 79; with_reducible refine (draw_any b A n c bs B (6) _ (bxinv (B := w.heap.size) ?_ HI) (by omega)).mono ?_; (focus (repeat (first | (with_reducible assumption) | (with_reducible exact BX.refl _ _ _) | (with_reducible refine BX.drewN ?_ _) | (with_reducible refine BX.drew ?_) | ((with_reducible refine BX.alloc ?_ ?_ _); rotate_left; (focus (first | (simp; done) | omega | (simp; omega) | (simp [srcP]; done) | (simp [srcP]; omega)))) | ((with_reducible refine BX.setCell ?_ ?_ ?_ _); rotate_left; (focus (first | (simp; done) | omega | (simp; omega) | (simp [srcP]; done) | (simp [srcP]; omega))); (focus (first | (simp; done) | omega | (simp; omega) | (simp [srcP]; done) | (simp [srcP]; omega))))))); rintro e2 w2 ⟨u2, rfl, ⟨r2, rfl, hr2a, hr2b⟩, hb2⟩; have hB2 : BX (srcP 124 b A n c bs B) w.heap.size w w2 := BX.then (by (repeat (first | (with_reducible assumption) | (with_reducible exact BX.refl _ _ _) | (with_reducible refine BX.drewN ?_ _) | (with_reducible refine BX.drew ?_) | ((with_reducible refine BX.alloc ?_ ?_ _); rotate_left; (focus (first | (simp; done) | omega | (simp; omega) | (simp [srcP]; done) | (simp [srcP]; omega)))) | ((with_reducible refine BX.setCell ?_ ?_ ?_ _); rotate_left; (focus (first | (simp; done) | omega | (simp; omega) | (simp [srcP]; done) | (simp [srcP]; omega))); (focus (first | (simp; done) | omega | (simp; omega) | (simp [srcP]; done) | (simp [srcP]; omega))))))) (by first | omega | (simp; done) | (simp; omega)) hb2; have hc2 := bxcell hb2; have hf2 := bxfrozen hb2; simp only [srcP_b] at hc2 hf2; have hz2a : w.heap.size < w2.heap.size := (by have := hb2.size; first | omega | (simp at this; omega)))
  (have hh2 := Lib.hid (show w2.heap[w.heap.size]? = some (.cells #[.int .i64 0, .int .i64 0, .slice none 0 0] 41 (0, 0)) from (hb2.block (w.heap.size) (by first | omega | (simp; done) | (simp; omega) | (simp [srcP]; omega)) (by first | omega | (simp; done) | (simp; omega) | (simp [srcP]; omega))).trans (by repeat (first | (with_reducible exact hh1.out) | (with_reducible exact heap_alloc_new _ _) | (rw [heap_drew1]) | (rw [heap_drewN1]) | (rw [Below.heap_setCell _ _ _ _ (by first | omega | (simp; done) | (simp; omega) | (simp [srcP]; omega))]) | (rw [Below.heap_alloc _ _ _ (by first | omega | (simp; done) | (simp; omega) | (simp [srcP]; omega))])))))
  have hs2 := hb2.size
  have hbw2 : b < w2.heap.size := by omega
  have hbw3 : b < w2.heap.size + 1 := by omega
  have hbw4 : b < w2.heap.size + 1 + 1 := by omega
  obtain ⟨P, hP, hP1, hP2⟩ : ∃ P : Nat, (1 + r1) * (1 + r2) = (P : Int) ∧ 1 ≤ P ∧ P ≤ 36 := by
    have h1 := mul_bd1 (a := 1 + r1) (b := 1 + r2) (by omega) (by omega)
    have h2 := mul_bd (a := 1 + r1) (b := 1 + r2) (A := 6) (B := 6) (by omega) (by omega) (by omega) (by omega)
    exact ⟨((1 + r1) * (1 + r2)).toNat, by omega, by omega, by omega⟩
  have HB2 := Lib.hid hB2
  have hh2' := hh2
  have HO3 : Hid (Own ((w2.alloc (.cells #[.int .i64 (1 + r1), .int .i64 (1 + r2), .slice none 0 0] 41)).alloc (.cells #[] 2)) (w2.heap.size + 1) (.slice (some ⟨w2.heap.size + 1, 0, none⟩) 0 0) []) := Lib.hid (by
    have := World.ownsRow_made (e := 2) (size := 1) (base := w2.heap.size + 1) (w2.alloc (.cells #[.int .i64 (1 + r1), .int .i64 (1 + r2), .slice none 0 0] 41)) #[] 0 (by simp) (by unfold maxLen; omega) rfl
    simpa [Own] using this)
  have HBA : Hid (BX (srcP 124 b A n c bs B) w.heap.size w ((w2.alloc (.cells #[.int .i64 (1 + r1), .int .i64 (1 + r2), .slice none 0 0] 41)).alloc (.cells #[] 2))) := Lib.hid ((hB2.alloc (by omega) _).alloc (by simp; omega) _)
  have HZA : Hid (((w2.alloc (.cells #[.int .i64 (1 + r1), .int .i64 (1 + r2), .slice none 0 0] 41)).alloc (.cells #[] 2)).heap[w.heap.size]? = some (.cells #[.int .i64 0, .int .i64 0, .slice none 0 0] 41 (0, 0))) := Lib.hid (blk_alloc (blk_alloc hh2.out (by omega)) (by simp; omega))
  have HGA : Hid (((w2.alloc (.cells #[.int .i64 (1 + r1), .int .i64 (1 + r2), .slice none 0 0] 41)).alloc (.cells #[] 2)).heap[w2.heap.size]? = some (.cells #[.int .i64 (1 + r1), .int .i64 (1 + r2), .slice none 0 0] 41 (0, 0))) := Lib.hid (blk_alloc (heap_alloc_new _ _) (by simp))
  have hwG : w.heap.size < w2.heap.size := by omega
  clear hc2 hf2 hb2 hB2 hb1 hB1
  go_wp2_with fail
  go_loopw [4, 5] (fun ov i wr => ∃ k : Nat, k ≤ P ∧ i = .int .i64 k ∧ Hid (∃ ys : List Int, ys.length = k ∧ Own wr (w2.heap.size + 1) ov ys) ∧ Hid (BX (srcP 124 b A n c bs B) w.heap.size w wr) ∧
      Hid (w2.heap.size + 1 ≤ wr.heap.size ∧ wr.heap[w.heap.size]? = some (.cells #[.int .i64 0, .int .i64 0, .slice none 0 0] 41 (0, 0)) ∧ wr.heap[w2.heap.size]? = some (.cells #[.int .i64 (1 + r1), .int .i64 (1 + r2), .slice none 0 0] 41 (0, 0))))
    (fun _ i _ => P - (intOf i).toNat)
  case atStart => exact ⟨0, Nat.zero_le _, rfl, Lib.hid ⟨[], rfl, HO3.out⟩, HBA, Lib.hid ⟨by simp, HZA.out, HGA.out⟩⟩
  case round =>
    rename World => wo
    obtain ⟨k, hk, rfl, hown, hbx, hsz⟩ := hrel
    obtain ⟨ys, hyl, hoy⟩ := hown.out
    have HOY := Lib.hid hoy
    have HYL := Lib.hid hyl
    have hBo := hbx.out
    have hso := hsz.out.1
    have HZo := Lib.hid hsz.out.2.1
    have HGo := Lib.hid hsz.out.2.2
    have hbo : b < wo.heap.size := by omega
    have hwo : w.heap.size < wo.heap.size := by omega
    obtain ⟨y0, y1, y2, yf⟩ := blk3 HGo.out
    clear hown hoy hyl hsz
    by_cases hkP : k < P
    · have hkP' : (k : Int) < P := by omega
      go_wp2_with fail
      (go_at_call 79; with_reducible refine (draw_any b A n c bs B (3) _ (bxinv (B := w.heap.size) ?_ HI) (by omega)).mono ?_; (focus (repeat (first | (with_reducible assumption) | (with_reducible exact BX.refl _ _ _) | (with_reducible refine BX.drewN ?_ _) | (with_reducible refine BX.drew ?_) | ((with_reducible refine BX.alloc ?_ ?_ _); rotate_left; (focus (first | (simp; done) | omega | (simp; omega) | (simp [srcP]; done) | (simp [srcP]; omega)))) | ((with_reducible refine BX.setCell ?_ ?_ ?_ _); rotate_left; (focus (first | (simp; done) | omega | (simp; omega) | (simp [srcP]; done) | (simp [srcP]; omega))); (focus (first | (simp; done) | omega | (simp; omega) | (simp [srcP]; done) | (simp [srcP]; omega))))))); rintro e4 w4 ⟨u4, rfl, ⟨r4, rfl, hr4a, hr4b⟩, hb4⟩; have hB4 : BX (srcP 124 b A n c bs B) w.heap.size w w4 := BX.then (by (repeat (first | (with_reducible assumption) | (with_reducible exact BX.refl _ _ _) | (with_reducible refine BX.drewN ?_ _) | (with_reducible refine BX.drew ?_) | ((with_reducible refine BX.alloc ?_ ?_ _); rotate_left; (focus (first | (simp; done) | omega | (simp; omega) | (simp [srcP]; done) | (simp [srcP]; omega)))) | ((with_reducible refine BX.setCell ?_ ?_ ?_ _); rotate_left; (focus (first | (simp; done) | omega | (simp; omega) | (simp [srcP]; done) | (simp [srcP]; omega))); (focus (first | (simp; done) | omega | (simp; omega) | (simp [srcP]; done) | (simp [srcP]; omega))))))) (by first | omega | (simp; done) | (simp; omega)) hb4; have hc4 := bxcell hb4; have hf4 := bxfrozen hb4; simp only [srcP_b] at hc4 hf4)
      have hs4 := hb4.size
      have HO4 := Lib.hid (HOY.out.bx hb4 (show b < w2.heap.size + 1 by omega))
      have hs4' : Hid (w2.heap.size + 1 ≤ w4.heap.size) := Lib.hid (by omega)
      (have hh4 := Lib.hid (show w4.heap[w.heap.size]? = some (.cells #[.int .i64 0, .int .i64 0, .slice none 0 0] 41 (0, 0)) from (hb4.block (w.heap.size) (by first | omega | (simp; done) | (simp; omega) | (simp [srcP]; omega)) (by first | omega | (simp; done) | (simp; omega) | (simp [srcP]; omega))).trans (by repeat (first | (with_reducible exact HZo.out) | (with_reducible exact heap_alloc_new _ _) | (rw [heap_drew1]) | (rw [heap_drewN1]) | (rw [Below.heap_setCell _ _ _ _ (by first | omega | (simp; done) | (simp; omega) | (simp [srcP]; omega))]) | (rw [Below.heap_alloc _ _ _ (by first | omega | (simp; done) | (simp; omega) | (simp [srcP]; omega))])))))
      (have hg4 := Lib.hid (show w4.heap[w2.heap.size]? = some (.cells #[.int .i64 (1 + r1), .int .i64 (1 + r2), .slice none 0 0] 41 (0, 0)) from (hb4.block (w2.heap.size) (by first | omega | (simp; done) | (simp; omega) | (simp [srcP]; omega)) (by first | omega | (simp; done) | (simp; omega) | (simp [srcP]; omega))).trans (by repeat (first | (with_reducible exact HGo.out) | (with_reducible exact heap_alloc_new _ _) | (rw [heap_drew1]) | (rw [heap_drewN1]) | (rw [Below.heap_setCell _ _ _ _ (by first | omega | (simp; done) | (simp; omega) | (simp [srcP]; omega))]) | (rw [Below.heap_alloc _ _ _ (by first | omega | (simp; done) | (simp; omega) | (simp [srcP]; omega))])))))
      have HI := HI0
      have hyl := HYL.out
      clear hc4 hf4 hb4 y0 y1 y2 yf
      go_wp2_with (at_builtin; refine wpList_append_own _ rfl _ _ 22 rfl ((w2.heap.size + 1)) 2 i0 (.int .i64 0) 1 8 Try.underlying22 HI.out.2.1 HI.out.2.2.1 HI.out.2.2.2.1 HI.out.2.2.2.2 rfl (by decide) _ _ _ rfl (Own.alloc HO4.out _) ⟨w4.heap.size, 0, none⟩ 1 1 [.int .i64 ((r4 - 1))] rfl rfl (cell_one_new _ _ _) (one_ok _) (own_max HO4.out (by omega)) (own_bytes HO4.out (by omega)) (own_base hs4'.out) ?_; intro va wa howna hgrowa _; have hoa := Lib.hid (Own.snoc howna); have hga := Lib.hid hgrowa; clear howna hgrowa)
      have hnb : ∀ j, j ≤ w2.heap.size → some j ≠ Value.ownBlock u4 := fun j hj e => by have := (World.ownsRow.lt HO4.out j e.symm).1; omega
      go_roundw
      case rel => exact ⟨k + 1, by omega, by go_num, Lib.hid ⟨ys ++ [r4 - 1], by simp [HYL.out], hoa.out⟩, Lib.hid ((BX.alloc hB4 (by omega) _).grown hga.out (by simp; omega) (fun j hj => by have := (World.ownsRow.lt HO4.out j hj).1; simp; omega)),
        Lib.hid ⟨by have := hga.out.size; simp at this; omega, (hga.out.block _ (by simp; omega) (hnb _ (by omega))).trans (blk_alloc hh4.out (by omega)), (hga.out.block _ (by simp; omega) (hnb _ (Nat.le_refl _))).trans (blk_alloc hg4.out (by omega))⟩⟩
      case measure => simp [intOf]; omega
    · obtain rfl : k = P := by omega
      have hkP' : ¬ ((k : Int) < (k : Int)) := by omega
      go_wp2_with fail
      (go_at_call 79; with_reducible refine (draw_any b A n c bs B (20) _ (bxinv (B := w.heap.size) ?_ HI) (by omega)).mono ?_; (focus (repeat (first | (with_reducible assumption) | (with_reducible exact BX.refl _ _ _) | (with_reducible refine BX.drewN ?_ _) | (with_reducible refine BX.drew ?_) | ((with_reducible refine BX.alloc ?_ ?_ _); rotate_left; (focus (first | (simp; done) | omega | (simp; omega) | (simp [srcP]; done) | (simp [srcP]; omega)))) | ((with_reducible refine BX.setCell ?_ ?_ ?_ _); rotate_left; (focus (first | (simp; done) | omega | (simp; omega) | (simp [srcP]; done) | (simp [srcP]; omega))); (focus (first | (simp; done) | omega | (simp; omega) | (simp [srcP]; done) | (simp [srcP]; omega))))))); rintro e5 w5 ⟨u5, rfl, ⟨r5, rfl, hr5a, hr5b⟩, hb5⟩; have hB5 : BX (srcP 124 b A n c bs B) w.heap.size w w5 := BX.then (by (repeat (first | (with_reducible assumption) | (with_reducible exact BX.refl _ _ _) | (with_reducible refine BX.drewN ?_ _) | (with_reducible refine BX.drew ?_) | ((with_reducible refine BX.alloc ?_ ?_ _); rotate_left; (focus (first | (simp; done) | omega | (simp; omega) | (simp [srcP]; done) | (simp [srcP]; omega)))) | ((with_reducible refine BX.setCell ?_ ?_ ?_ _); rotate_left; (focus (first | (simp; done) | omega | (simp; omega) | (simp [srcP]; done) | (simp [srcP]; omega))); (focus (first | (simp; done) | omega | (simp; omega) | (simp [srcP]; done) | (simp [srcP]; omega))))))) (by first | omega | (simp; done) | (simp; omega)) hb5; have hc5 := bxcell hb5; have hf5 := bxfrozen hb5; simp only [srcP_b] at hc5 hf5)
      (have hh5 := Lib.hid (show w5.heap[w.heap.size]? = some (.cells #[.int .i64 0, .int .i64 0, .slice none 0 0] 41 (0, 0)) from (hb5.block (w.heap.size) (by first | omega | (simp; done) | (simp; omega) | (simp [srcP]; omega)) (by first | omega | (simp; done) | (simp; omega) | (simp [srcP]; omega))).trans (by repeat (first | (with_reducible exact HZo.out) | (with_reducible exact heap_alloc_new _ _) | (rw [heap_drew1]) | (rw [heap_drewN1]) | (rw [Below.heap_setCell _ _ _ _ (by first | omega | (simp; done) | (simp; omega) | (simp [srcP]; omega))]) | (rw [Below.heap_alloc _ _ _ (by first | omega | (simp; done) | (simp; omega) | (simp [srcP]; omega))])))))
      (have hg5 := Lib.hid (show w5.heap[w2.heap.size]? = some (.cells #[.int .i64 (1 + r1), .int .i64 (1 + r2), .slice none 0 0] 41 (0, 0)) from (hb5.block (w2.heap.size) (by first | omega | (simp; done) | (simp; omega) | (simp [srcP]; omega)) (by first | omega | (simp; done) | (simp; omega) | (simp [srcP]; omega))).trans (by repeat (first | (with_reducible exact HGo.out) | (with_reducible exact heap_alloc_new _ _) | (rw [heap_drew1]) | (rw [heap_drewN1]) | (rw [Below.heap_setCell _ _ _ _ (by first | omega | (simp; done) | (simp; omega) | (simp [srcP]; omega))]) | (rw [Below.heap_alloc _ _ _ (by first | omega | (simp; done) | (simp; omega) | (simp [srcP]; omega))])))))
      have hs5 := hb5.size
      have hbo5 : b < w5.heap.size := by omega
      have HO5 := Lib.hid (HOY.out.bx hb5 (show b < w2.heap.size + 1 by omega))
      have hs5' : Hid (w2.heap.size + 1 ≤ w5.heap.size) := Lib.hid (by omega)
      have HB5 := Lib.hid hB5
      clear hc5 hf5 hb5 y0 y1 y2 yf
      have hwG1 : w.heap.size < w2.heap.size + 1 := by omega
      by_cases e0 : r5 = 0
      · subst e0
        have HI := HI0
        have hyl := HYL.out
        have hnb : ∀ j, j ≤ w2.heap.size → some j ≠ Value.ownBlock u4 := fun j hj e => by have := (World.ownsRow.lt HO5.out j e.symm).1; omega
        have HB5' := HB5
        go_wp2_with ((at_builtin; refine wpList_append_own _ rfl _ _ 22 rfl ((w2.heap.size + 1)) 2 i0 (.int .i64 0) 1 8 Try.underlying22 HI.out.2.1 HI.out.2.2.1 HI.out.2.2.2.1 HI.out.2.2.2.2 rfl (by decide) _ _ _ rfl (Own.alloc HO5.out _) ⟨w5.heap.size, 0, none⟩ 1 1 [.int .i64 (0)] rfl rfl (cell_one_new _ _ _) (one_ok _) (own_max HO5.out (by omega)) (own_bytes HO5.out (by omega)) (own_base hs5'.out) ?_; intro va wa howna hgrowa _; have hoa := Lib.hid (Own.snoc howna); have hga := Lib.hid hgrowa; clear howna hgrowa); have hB6 := Lib.hid ((BX.alloc HB5'.out (show w.heap.size ≤ w5.heap.size by omega) (.cells #[.int .i64 0] 2)).grown hga.out (by simp; omega) (fun j hj => by have := (World.ownsRow.lt HO5.out j hj).1; simp; omega)); have HZ6 := Lib.hid ((hga.out.block _ (by simp; omega) (hnb _ (by omega))).trans (blk_alloc hh5.out (by omega))); have HG6 := Lib.hid ((hga.out.block _ (by simp; omega) (hnb _ (Nat.le_refl _))).trans (blk_alloc hg5.out (by omega))); have hlen9 : (ys ++ [0]).length = k + 1 := (by simp [HYL.out]); have HOA := hoa.out; obtain ⟨Aa, ca, rfl, -⟩ := hoa.out.shape; rw [hlen9] at HOA ⊢; have HOA := Lib.hid HOA; obtain ⟨y0, y1, y2, -⟩ := blk3 HG6.out; obtain ⟨z0, z1, z2, zf⟩ := blk3 HZ6.out; obtain ⟨s0, s1, s2⟩ := res3 HZ6.out (.int .i64 (1 + r1)) (.int .i64 (1 + r2)) (.slice Aa (k + 1) ca))
        (try simp only [Exit.inBlock, Exit.then]); refine bodyPost_ret (by simp [results, Try.results92, go_sem, s0, s1, s2]; try rfl) rfl ?_
        exact ⟨_, rfl, ⟨_, _, _, ys ++ [0], rfl, by simp, by simp; omega, ((((HOA.out.setLt (p := ⟨w.heap.size, 0, none⟩) hwG1 _).setLt (p := ⟨w.heap.size, 1, none⟩) hwG1 _).setLt (p := ⟨w.heap.size, 2, none⟩) hwG1 _)).more (Nat.le_of_lt hwG1), by omega, by omega, by omega, by omega⟩, ((hB6.out.setCell (p := ⟨w.heap.size, 0, none⟩) (Nat.le_refl _) hbw _).setCell (p := ⟨w.heap.size, 1, none⟩) (Nat.le_refl _) hbw _).setCell (p := ⟨w.heap.size, 2, none⟩) (Nat.le_refl _) hbw _⟩
      · have e0' : (r5 == 0) = false := by simpa using e0
        obtain ⟨g8, c8, rfl, hg8, hg8w, hcc, hff⟩ := HO5.out.row (by rw [HYL.out]; omega)
        have hyl := HYL.out
        rw [hyl] at hcc
        have HO5' : Hid (Own w5 (w2.heap.size + 1) (.slice (some ⟨g8, 0, none⟩) k c8) ys) := Lib.hid (by have := HO5.out; rwa [hyl] at this)
        rw [hyl]
        have hb8 : b < g8 := by omega
        have hz8 : w.heap.size < g8 := by omega
        by_cases e1 : r5 = 1
        · subst e1
          have hck := hcc 0 (by omega)
          have hfk := hff 0
          have HZ6 : Hid ((w5.setCell ⟨g8, 0, none⟩ (.int .i64 2)).heap[w.heap.size]? = _) := Lib.hid (blk_other hh5.out (by omega))
          have HG6 : Hid ((w5.setCell ⟨g8, 0, none⟩ (.int .i64 2)).heap[w2.heap.size]? = _) := Lib.hid (blk_other hg5.out (by omega))
          have HO6 := Lib.hid (Own.setn (k := 0) (u := 2) hyl HO5'.out)
          have hB6 := Lib.hid (HB5.out.setCell (p := ⟨g8, 0, none⟩) (show w.heap.size ≤ g8 by omega) hb8 (.int .i64 2))
          obtain ⟨y0, y1, y2, -⟩ := blk3 HG6.out
          obtain ⟨z0, z1, z2, zf⟩ := blk3 HZ6.out
          obtain ⟨s0, s1, s2⟩ := res3 HZ6.out (.int .i64 (1 + r1)) (.int .i64 (1 + r2)) (.slice (some ⟨g8, 0, none⟩) k c8)
          clear hcc hff hyl
          go_wp2_with fail
          (try simp only [Exit.inBlock, Exit.then]); refine bodyPost_ret (by simp [results, Try.results92, go_sem, s0, s1, s2]; try rfl) rfl ?_
          exact ⟨_, rfl, ⟨_, _, _, ys.set 0 2, rfl, by rw [List.length_set, HYL.out]; omega, by rw [List.length_set, HYL.out]; omega, ((((HO6.out.setLt (p := ⟨w.heap.size, 0, none⟩) hwG1 _).setLt (p := ⟨w.heap.size, 1, none⟩) hwG1 _).setLt (p := ⟨w.heap.size, 2, none⟩) hwG1 _)).more (Nat.le_of_lt hwG1), by omega, by omega, by omega, by omega⟩, ((hB6.out.setCell (p := ⟨w.heap.size, 0, none⟩) (Nat.le_refl _) hbw _).setCell (p := ⟨w.heap.size, 1, none⟩) (Nat.le_refl _) hbw _).setCell (p := ⟨w.heap.size, 2, none⟩) (Nat.le_refl _) hbw _⟩
        · have e1' : (r5 == 1) = false := by simpa using e1
          by_cases e2 : r5 = 2
          · subst e2
            clear hcc hff hyl
            go_wp2_with fail
            (go_at_call 79; with_reducible refine (draw_any b A n c bs B (3) _ (bxinv (B := w.heap.size) ?_ HI) (by omega)).mono ?_; (focus (repeat (first | (with_reducible assumption) | (with_reducible exact BX.refl _ _ _) | (with_reducible refine BX.drewN ?_ _) | (with_reducible refine BX.drew ?_) | ((with_reducible refine BX.alloc ?_ ?_ _); rotate_left; (focus (first | (simp; done) | omega | (simp; omega) | (simp [srcP]; done) | (simp [srcP]; omega)))) | ((with_reducible refine BX.setCell ?_ ?_ ?_ _); rotate_left; (focus (first | (simp; done) | omega | (simp; omega) | (simp [srcP]; done) | (simp [srcP]; omega))); (focus (first | (simp; done) | omega | (simp; omega) | (simp [srcP]; done) | (simp [srcP]; omega))))))); rintro e6 w6 ⟨u6, rfl, ⟨r6, rfl, hr6a, hr6b⟩, hb6⟩; have hB6 : BX (srcP 124 b A n c bs B) w.heap.size w w6 := BX.then (by (repeat (first | (with_reducible assumption) | (with_reducible exact BX.refl _ _ _) | (with_reducible refine BX.drewN ?_ _) | (with_reducible refine BX.drew ?_) | ((with_reducible refine BX.alloc ?_ ?_ _); rotate_left; (focus (first | (simp; done) | omega | (simp; omega) | (simp [srcP]; done) | (simp [srcP]; omega)))) | ((with_reducible refine BX.setCell ?_ ?_ ?_ _); rotate_left; (focus (first | (simp; done) | omega | (simp; omega) | (simp [srcP]; done) | (simp [srcP]; omega))); (focus (first | (simp; done) | omega | (simp; omega) | (simp [srcP]; done) | (simp [srcP]; omega))))))) (by first | omega | (simp; done) | (simp; omega)) hb6; have hc6 := bxcell hb6; have hf6 := bxfrozen hb6; simp only [srcP_b] at hc6 hf6)
            have hs6 := hb6.size
            simp only [World.size_alloc] at hs6
            have hh6 : w6.heap[w5.heap.size]? = some (.cells ([0, -1, 40001].map (Value.int .i64)).toArray 2 (0, 0)) := (hb6.block w5.heap.size (by simp) (by simp; omega)).trans (heap_alloc_new _ _)
            obtain ⟨R, v, rfl, hR, hv, hv1, hv2⟩ := pick_in (xs := [0, -1, 40001]) (lo := -1) (hi := 40001) (by decide) hr6a (by simp; omega)
            have hck := pick_lit hh6 hv
            have hR' : R < 3 := hR
            have HO6 := Lib.hid (Own.bx (w := w5.alloc (.cells ([0, -1, 40001].map (Value.int .i64)).toArray 2)) (HO5'.out.keep ((Below.refl _ _).alloc (Nat.le_refl _) _)) hb6 (show b < w2.heap.size + 1 by omega))
            have HZ6 := Lib.hid ((hb6.block w.heap.size (by simp; omega) (by simp; omega)).trans (blk_alloc hh5.out (by omega)))
            have HG6 := Lib.hid ((hb6.block w2.heap.size (by simp; omega) (by simp; omega)).trans (blk_alloc hg5.out (by omega)))
            have HB6 := Lib.hid (hB6.setCell (p := ⟨w2.heap.size, 0, none⟩) (show w.heap.size ≤ w2.heap.size by omega) (show b < w2.heap.size by omega) (.int .i64 v))
            have HZ7 : Hid ((w6.setCell ⟨w2.heap.size, 0, none⟩ (.int .i64 v)).heap[w.heap.size]? = _) := Lib.hid (blk_other HZ6.out (by omega))
            obtain ⟨y0, y1, y2, yf⟩ := blk3 HG6.out
            obtain ⟨x0, x1, x2, -⟩ := blk3 (blk3_0 (u := .int .i64 v) HG6.out)
            obtain ⟨z0, z1, z2, zf⟩ := blk3 HZ7.out
            obtain ⟨s0, s1, s2⟩ := res3 HZ7.out (.int .i64 v) (.int .i64 (1 + r2)) (.slice (some ⟨g8, 0, none⟩) k c8)
            have HO7 := Lib.hid (HO6.out.setLt (p := ⟨w2.heap.size, 0, none⟩) (Nat.lt_succ_self _) (.int .i64 v))
            clear hh6 hv hc6 hf6 hb6 hB6
            go_wp2_with fail
            (try simp only [Exit.inBlock, Exit.then]); refine bodyPost_ret (by simp [results, Try.results92, go_sem, s0, s1, s2]; try rfl) rfl ?_
            exact ⟨_, rfl, ⟨_, _, _, ys, rfl, by rw [HYL.out]; omega, by rw [HYL.out]; omega, ((((HO7.out.setLt (p := ⟨w.heap.size, 0, none⟩) hwG1 _).setLt (p := ⟨w.heap.size, 1, none⟩) hwG1 _).setLt (p := ⟨w.heap.size, 2, none⟩) hwG1 _)).more (Nat.le_of_lt hwG1), by omega, by omega, by omega, by omega⟩, ((HB6.out.setCell (p := ⟨w.heap.size, 0, none⟩) (Nat.le_refl _) hbw _).setCell (p := ⟨w.heap.size, 1, none⟩) (Nat.le_refl _) hbw _).setCell (p := ⟨w.heap.size, 2, none⟩) (Nat.le_refl _) hbw _⟩
          · have e2' : (r5 == 2) = false := by simpa using e2
            obtain ⟨y0, y1, y2, yf⟩ := blk3 hg5.out
            obtain ⟨z0, z1, z2, zf⟩ := blk3 hh5.out
            obtain ⟨s0, s1, s2⟩ := res3 hh5.out (.int .i64 (1 + r1)) (.int .i64 (1 + r2)) (.slice (some ⟨g8, 0, none⟩) k c8)
            clear hcc hff hyl
            go_wp2_with fail
            (try simp only [Exit.inBlock, Exit.then]); refine bodyPost_ret (by simp [results, Try.results92, go_sem, s0, s1, s2]; try rfl) rfl ?_
            exact ⟨_, rfl, ⟨_, _, _, ys, rfl, by rw [HYL.out]; omega, by rw [HYL.out]; omega, ((((HO5'.out.setLt (p := ⟨w.heap.size, 0, none⟩) hwG1 _).setLt (p := ⟨w.heap.size, 1, none⟩) hwG1 _).setLt (p := ⟨w.heap.size, 2, none⟩) hwG1 _)).more (Nat.le_of_lt hwG1), by omega, by omega, by omega, by omega⟩, ((HB5.out.setCell (p := ⟨w.heap.size, 0, none⟩) (Nat.le_refl _) hbw _).setCell (p := ⟨w.heap.size, 1, none⟩) (Nat.le_refl _) hbw _).setCell (p := ⟨w.heap.size, 2, none⟩) (Nat.le_refl _) hbw _⟩

set_option maxRecDepth 20000 in
set_option maxHeartbeats 4000000 in
theorem l16Draw_any (b : Nat) (A : Option Addr) (n c : Nat) (bs : List Int) (B : Nat) (w : World) (hI : (srcP 124 b A n c bs B).I w) :
    Calls Try.prog 61 #[.pointer (some ⟨b, 0, none⟩)] w fun e w' =>
      ∃ u, e = .returned u ∧ DGB w' w.heap.size u ∧ BX (srcP 124 b A n c bs B) w.heap.size w w' := by
  obtain ⟨i0, hi⟩ := info_own' info_i64s
  have HI0 := Lib.hid (And.intro i0.bytes.le_refl hi)
  have hbw := srcP_lt hI
  have hbw0 : b < w.heap.size + 1 := by omega
  have HI := Lib.hid hI
  clear hI hi
  go_enter Try.func61, Try.ntmps61
  go_wp2_with fail
  (go_at_call 79; with_reducible refine (draw_any b A n c bs B (6) _ (bxinv (B := w.heap.size) ?_ HI) (by omega)).mono ?_; (focus (repeat (first | (with_reducible assumption) | (with_reducible exact BX.refl _ _ _) | (with_reducible refine BX.drewN ?_ _) | (with_reducible refine BX.drew ?_) | ((with_reducible refine BX.alloc ?_ ?_ _); rotate_left; (focus (first | (simp; done) | omega | (simp; omega) | (simp [srcP]; done) | (simp [srcP]; omega)))) | ((with_reducible refine BX.setCell ?_ ?_ ?_ _); rotate_left; (focus (first | (simp; done) | omega | (simp; omega) | (simp [srcP]; done) | (simp [srcP]; omega))); (focus (first | (simp; done) | omega | (simp; omega) | (simp [srcP]; done) | (simp [srcP]; omega))))))); rintro e0 w0 ⟨u0, rfl, ⟨r0, rfl, hr0a, hr0b⟩, hb0⟩; have hB0 : BX (srcP 124 b A n c bs B) w.heap.size w w0 := BX.then (by (repeat (first | (with_reducible assumption) | (with_reducible exact BX.refl _ _ _) | (with_reducible refine BX.drewN ?_ _) | (with_reducible refine BX.drew ?_) | ((with_reducible refine BX.alloc ?_ ?_ _); rotate_left; (focus (first | (simp; done) | omega | (simp; omega) | (simp [srcP]; done) | (simp [srcP]; omega)))) | ((with_reducible refine BX.setCell ?_ ?_ ?_ _); rotate_left; (focus (first | (simp; done) | omega | (simp; omega) | (simp [srcP]; done) | (simp [srcP]; omega))); (focus (first | (simp; done) | omega | (simp; omega) | (simp [srcP]; done) | (simp [srcP]; omega))))))) (by first | omega | (simp; done) | (simp; omega)) hb0; have hc0 := bxcell hb0; have hf0 := bxfrozen hb0; simp only [srcP_b] at hc0 hf0; have hz0a : w.heap.size < w0.heap.size := (by have := hb0.size; first | omega | (simp at this; omega)))
  (have hh0 := Lib.hid (show w0.heap[w.heap.size]? = some (.cells #[.int .i64 0, .int .i64 0, .slice none 0 0] 41 (0, 0)) from (hb0.block (w.heap.size) (by first | omega | (simp; done) | (simp; omega) | (simp [srcP]; omega)) (by first | omega | (simp; done) | (simp; omega) | (simp [srcP]; omega))).trans (by repeat (first | (with_reducible exact rfl) | (with_reducible exact heap_alloc_new _ _) | (rw [heap_drew1]) | (rw [heap_drewN1]) | (rw [Below.heap_setCell _ _ _ _ (by first | omega | (simp; done) | (simp; omega) | (simp [srcP]; omega))]) | (rw [Below.heap_alloc _ _ _ (by first | omega | (simp; done) | (simp; omega) | (simp [srcP]; omega))])))))
  have hs0 := hb0.size
  simp only [World.size_alloc] at hs0
  have hbw00 : b < w0.heap.size := by omega
  clear hc0 hf0
  by_cases h0 : r0 = 0
  · subst h0
    go_wp2_with fail
    (go_at_call 92; with_reducible refine (l14DrawGrid_any b A n c bs B _ (bxinv (B := w.heap.size) ?_ HI)).mono ?_; (focus (repeat (first | (with_reducible assumption) | (with_reducible exact BX.refl _ _ _) | (with_reducible refine BX.drewN ?_ _) | (with_reducible refine BX.drew ?_) | ((with_reducible refine BX.alloc ?_ ?_ _); rotate_left; (focus (first | (simp; done) | omega | (simp; omega) | (simp [srcP]; done) | (simp [srcP]; omega)))) | ((with_reducible refine BX.setCell ?_ ?_ ?_ _); rotate_left; (focus (first | (simp; done) | omega | (simp; omega) | (simp [srcP]; done) | (simp [srcP]; omega))); (focus (first | (simp; done) | omega | (simp; omega) | (simp [srcP]; done) | (simp [srcP]; omega))))))); rintro e1 w1 ⟨u1, rfl, hdg, hb1⟩; have hB1 : BX (srcP 124 b A n c bs B) w.heap.size w w1 := BX.then (by (repeat (first | (with_reducible assumption) | (with_reducible exact BX.refl _ _ _) | (with_reducible refine BX.drewN ?_ _) | (with_reducible refine BX.drew ?_) | ((with_reducible refine BX.alloc ?_ ?_ _); rotate_left; (focus (first | (simp; done) | omega | (simp; omega) | (simp [srcP]; done) | (simp [srcP]; omega)))) | ((with_reducible refine BX.setCell ?_ ?_ ?_ _); rotate_left; (focus (first | (simp; done) | omega | (simp; omega) | (simp [srcP]; done) | (simp [srcP]; omega))); (focus (first | (simp; done) | omega | (simp; omega) | (simp [srcP]; done) | (simp [srcP]; omega))))))) (by first | omega | (simp; done) | (simp; omega)) hb1; have hc1 := bxcell hb1; have hf1 := bxfrozen hb1; simp only [srcP_b] at hc1 hf1)
    obtain ⟨gr, gc, gv, gx, rfl, gl1, gl2, go1, gb1, gb2, gb3, gb4⟩ := hdg
    have hz1 : w.heap[w.heap.size]? = none := by simp
    (have hh1 := Lib.hid (show w1.heap[w.heap.size]? = some (.cells #[.int .i64 0, .int .i64 0, .slice none 0 0] 41 (0, 0)) from (hb1.block (w.heap.size) (by first | omega | (simp; done) | (simp; omega) | (simp [srcP]; omega)) (by first | omega | (simp; done) | (simp; omega) | (simp [srcP]; omega))).trans (by repeat (first | (with_reducible exact hh0.out) | (with_reducible exact heap_alloc_new _ _) | (rw [heap_drew1]) | (rw [heap_drewN1]) | (rw [Below.heap_setCell _ _ _ _ (by first | omega | (simp; done) | (simp; omega) | (simp [srcP]; omega))]) | (rw [Below.heap_alloc _ _ _ (by first | omega | (simp; done) | (simp; omega) | (simp [srcP]; omega))])))))
    have HO1 := Lib.hid go1
    have HB1 := Lib.hid hB1
    obtain ⟨GA, gcp, rfl, -⟩ := go1.shape
    obtain ⟨z0, z1, z2, zf⟩ := blk3 hh1.out
    obtain ⟨s0, s1, s2⟩ := res3 hh1.out (.int .i64 gr) (.int .i64 gc) (.slice GA gx.length gcp)
    have hwl : w.heap.size < w0.heap.size := by omega
    clear hc1 hf1 hb1 hB1 go1
    go_wp2_with fail
    (try simp only [Exit.inBlock, Exit.then]); refine bodyPost_ret (by simp [results, Try.results61, go_sem, s0, s1, s2]; try rfl) rfl ?_
    exact ⟨_, rfl, ⟨_, _, _, gx, rfl, gl1, gl2, ((((HO1.out.setLt (p := ⟨w.heap.size, 0, none⟩) hwl _).setLt (p := ⟨w.heap.size, 1, none⟩) hwl _).setLt (p := ⟨w.heap.size, 2, none⟩) hwl _)).more (Nat.le_of_lt hwl), gb1, gb2, gb3, gb4⟩, ((HB1.out.setCell (p := ⟨w.heap.size, 0, none⟩) (Nat.le_refl _) hbw _).setCell (p := ⟨w.heap.size, 1, none⟩) (Nat.le_refl _) hbw _).setCell (p := ⟨w.heap.size, 2, none⟩) (Nat.le_refl _) hbw _⟩
  have h0' : (r0 == 0) = false := by simpa using h0

  go_wp2_with fail
  (go_at_call 79; with_reducible refine (draw_any b A n c bs B (9) _ (bxinv (B := w.heap.size) ?_ HI) (by omega)).mono ?_; (focus (repeat (first | (with_reducible assumption) | (with_reducible exact BX.refl _ _ _) | (with_reducible refine BX.drewN ?_ _) | (with_reducible refine BX.drew ?_) | ((with_reducible refine BX.alloc ?_ ?_ _); rotate_left; (focus (first | (simp; done) | omega | (simp; omega) | (simp [srcP]; done) | (simp [srcP]; omega)))) | ((with_reducible refine BX.setCell ?_ ?_ ?_ _); rotate_left; (focus (first | (simp; done) | omega | (simp; omega) | (simp [srcP]; done) | (simp [srcP]; omega))); (focus (first | (simp; done) | omega | (simp; omega) | (simp [srcP]; done) | (simp [srcP]; omega))))))); rintro e1 w1 ⟨u1, rfl, ⟨r1, rfl, hr1a, hr1b⟩, hb1⟩; have hB1 : BX (srcP 124 b A n c bs B) w.heap.size w w1 := BX.then (by (repeat (first | (with_reducible assumption) | (with_reducible exact BX.refl _ _ _) | (with_reducible refine BX.drewN ?_ _) | (with_reducible refine BX.drew ?_) | ((with_reducible refine BX.alloc ?_ ?_ _); rotate_left; (focus (first | (simp; done) | omega | (simp; omega) | (simp [srcP]; done) | (simp [srcP]; omega)))) | ((with_reducible refine BX.setCell ?_ ?_ ?_ _); rotate_left; (focus (first | (simp; done) | omega | (simp; omega) | (simp [srcP]; done) | (simp [srcP]; omega))); (focus (first | (simp; done) | omega | (simp; omega) | (simp [srcP]; done) | (simp [srcP]; omega))))))) (by first | omega | (simp; done) | (simp; omega)) hb1; have hc1 := bxcell hb1; have hf1 := bxfrozen hb1; simp only [srcP_b] at hc1 hf1; have hz1a : w.heap.size < w1.heap.size := (by have := hb1.size; first | omega | (simp at this; omega)))
  (have hh1 := Lib.hid (show w1.heap[w.heap.size]? = some (.cells #[.int .i64 0, .int .i64 0, .slice none 0 0] 41 (0, 0)) from (hb1.block (w.heap.size) (by first | omega | (simp; done) | (simp; omega) | (simp [srcP]; omega)) (by first | omega | (simp; done) | (simp; omega) | (simp [srcP]; omega))).trans (by repeat (first | (with_reducible exact hh0.out) | (with_reducible exact heap_alloc_new _ _) | (rw [heap_drew1]) | (rw [heap_drewN1]) | (rw [Below.heap_setCell _ _ _ _ (by first | omega | (simp; done) | (simp; omega) | (simp [srcP]; omega))]) | (rw [Below.heap_alloc _ _ _ (by first | omega | (simp; done) | (simp; omega) | (simp [srcP]; omega))])))))
  have hs1 := hb1.size
  have hbw1 : b < w1.heap.size := by omega
  clear hc1 hf1
  go_wp2_with fail
  (go_at_call 79; with_reducible refine (draw_any b A n c bs B (9) _ (bxinv (B := w.heap.size) ?_ HI) (by omega)).mono ?_; (focus (repeat (first | (with_reducible assumption) | (with_reducible exact BX.refl _ _ _) | (with_reducible refine BX.drewN ?_ _) | (with_reducible refine BX.drew ?_) | ((with_reducible refine BX.alloc ?_ ?_ _); rotate_left; (focus (first | (simp; done) | omega | (simp; omega) | (simp [srcP]; done) | (simp [srcP]; omega)))) | ((with_reducible refine BX.setCell ?_ ?_ ?_ _); rotate_left; (focus (first | (simp; done) | omega | (simp; omega) | (simp [srcP]; done) | (simp [srcP]; omega))); (focus (first | (simp; done) | omega | (simp; omega) | (simp [srcP]; done) | (simp [srcP]; omega))))))); rintro e2 w2 ⟨u2, rfl, ⟨r2, rfl, hr2a, hr2b⟩, hb2⟩; have hB2 : BX (srcP 124 b A n c bs B) w.heap.size w w2 := BX.then (by (repeat (first | (with_reducible assumption) | (with_reducible exact BX.refl _ _ _) | (with_reducible refine BX.drewN ?_ _) | (with_reducible refine BX.drew ?_) | ((with_reducible refine BX.alloc ?_ ?_ _); rotate_left; (focus (first | (simp; done) | omega | (simp; omega) | (simp [srcP]; done) | (simp [srcP]; omega)))) | ((with_reducible refine BX.setCell ?_ ?_ ?_ _); rotate_left; (focus (first | (simp; done) | omega | (simp; omega) | (simp [srcP]; done) | (simp [srcP]; omega))); (focus (first | (simp; done) | omega | (simp; omega) | (simp [srcP]; done) | (simp [srcP]; omega))))))) (by first | omega | (simp; done) | (simp; omega)) hb2; have hc2 := bxcell hb2; have hf2 := bxfrozen hb2; simp only [srcP_b] at hc2 hf2; have hz2a : w.heap.size < w2.heap.size := (by have := hb2.size; first | omega | (simp at this; omega)))
  (have hh2 := Lib.hid (show w2.heap[w.heap.size]? = some (.cells #[.int .i64 0, .int .i64 0, .slice none 0 0] 41 (0, 0)) from (hb2.block (w.heap.size) (by first | omega | (simp; done) | (simp; omega) | (simp [srcP]; omega)) (by first | omega | (simp; done) | (simp; omega) | (simp [srcP]; omega))).trans (by repeat (first | (with_reducible exact hh1.out) | (with_reducible exact heap_alloc_new _ _) | (rw [heap_drew1]) | (rw [heap_drewN1]) | (rw [Below.heap_setCell _ _ _ _ (by first | omega | (simp; done) | (simp; omega) | (simp [srcP]; omega))]) | (rw [Below.heap_alloc _ _ _ (by first | omega | (simp; done) | (simp; omega) | (simp [srcP]; omega))])))))
  have hs2 := hb2.size
  have hbw2 : b < w2.heap.size := by omega
  have hbw3 : b < w2.heap.size + 1 := by omega
  have hbw4 : b < w2.heap.size + 1 + 1 := by omega
  obtain ⟨P, hP, hP1, hP2⟩ : ∃ P : Nat, (1 + r1) * (1 + r2) = (P : Int) ∧ 1 ≤ P ∧ P ≤ 81 := by
    have h1 := mul_bd1 (a := 1 + r1) (b := 1 + r2) (by omega) (by omega)
    have h2 := mul_bd (a := 1 + r1) (b := 1 + r2) (A := 9) (B := 9) (by omega) (by omega) (by omega) (by omega)
    exact ⟨((1 + r1) * (1 + r2)).toNat, by omega, by omega, by omega⟩
  have HB2 := Lib.hid hB2
  have hh2' := hh2
  have HO3 : Hid (Own ((w2.alloc (.cells #[.int .i64 (1 + r1), .int .i64 (1 + r2), .slice none 0 0] 41)).alloc (.cells #[] 2)) (w2.heap.size + 1) (.slice (some ⟨w2.heap.size + 1, 0, none⟩) 0 0) []) := Lib.hid (by
    have := World.ownsRow_made (e := 2) (size := 1) (base := w2.heap.size + 1) (w2.alloc (.cells #[.int .i64 (1 + r1), .int .i64 (1 + r2), .slice none 0 0] 41)) #[] 0 (by simp) (by unfold maxLen; omega) rfl
    simpa [Own] using this)
  have HBA : Hid (BX (srcP 124 b A n c bs B) w.heap.size w ((w2.alloc (.cells #[.int .i64 (1 + r1), .int .i64 (1 + r2), .slice none 0 0] 41)).alloc (.cells #[] 2))) := Lib.hid ((hB2.alloc (by omega) _).alloc (by simp; omega) _)
  have HZA : Hid (((w2.alloc (.cells #[.int .i64 (1 + r1), .int .i64 (1 + r2), .slice none 0 0] 41)).alloc (.cells #[] 2)).heap[w.heap.size]? = some (.cells #[.int .i64 0, .int .i64 0, .slice none 0 0] 41 (0, 0))) := Lib.hid (blk_alloc (blk_alloc hh2.out (by omega)) (by simp; omega))
  have HGA : Hid (((w2.alloc (.cells #[.int .i64 (1 + r1), .int .i64 (1 + r2), .slice none 0 0] 41)).alloc (.cells #[] 2)).heap[w2.heap.size]? = some (.cells #[.int .i64 (1 + r1), .int .i64 (1 + r2), .slice none 0 0] 41 (0, 0))) := Lib.hid (blk_alloc (heap_alloc_new _ _) (by simp))
  have hwG : w.heap.size < w2.heap.size := by omega
  clear hc2 hf2 hb2 hB2 hb1 hB1
  go_wp2_with fail
  go_loopw [4, 5] (fun ov i wr => ∃ k : Nat, k ≤ P ∧ i = .int .i64 k ∧ Hid (∃ ys : List Int, ys.length = k ∧ Own wr (w2.heap.size + 1) ov ys) ∧ Hid (BX (srcP 124 b A n c bs B) w.heap.size w wr) ∧
      Hid (w2.heap.size + 1 ≤ wr.heap.size ∧ wr.heap[w.heap.size]? = some (.cells #[.int .i64 0, .int .i64 0, .slice none 0 0] 41 (0, 0)) ∧ wr.heap[w2.heap.size]? = some (.cells #[.int .i64 (1 + r1), .int .i64 (1 + r2), .slice none 0 0] 41 (0, 0))))
    (fun _ i _ => P - (intOf i).toNat)
  case atStart => exact ⟨0, Nat.zero_le _, rfl, Lib.hid ⟨[], rfl, HO3.out⟩, HBA, Lib.hid ⟨by simp, HZA.out, HGA.out⟩⟩
  case round =>
    rename World => wo
    obtain ⟨k, hk, rfl, hown, hbx, hsz⟩ := hrel
    obtain ⟨ys, hyl, hoy⟩ := hown.out
    have HOY := Lib.hid hoy
    have HYL := Lib.hid hyl
    have hBo := hbx.out
    have hso := hsz.out.1
    have HZo := Lib.hid hsz.out.2.1
    have HGo := Lib.hid hsz.out.2.2
    have hbo : b < wo.heap.size := by omega
    have hwo : w.heap.size < wo.heap.size := by omega
    obtain ⟨y0, y1, y2, yf⟩ := blk3 HGo.out
    clear hown hoy hyl hsz
    by_cases hkP : k < P
    · have hkP' : (k : Int) < P := by omega
      obtain ⟨OA, oc, rfl, -⟩ := HOY.out.shape
      rw [HYL.out] at HOY ⊢
      by_cases hk0 : k = 0
      · have hk0' : ¬ (0 < (k : Int)) := by omega
        have hk0n : ¬ (0 < k) := by omega
        clear hk0
        go_wp2_with fail
        (go_at_call 79; with_reducible refine (draw_any b A n c bs B (2) _ (bxinv (B := w.heap.size) ?_ HI) (by omega)).mono ?_; (focus (repeat (first | (with_reducible assumption) | (with_reducible exact BX.refl _ _ _) | (with_reducible refine BX.drewN ?_ _) | (with_reducible refine BX.drew ?_) | ((with_reducible refine BX.alloc ?_ ?_ _); rotate_left; (focus (first | (simp; done) | omega | (simp; omega) | (simp [srcP]; done) | (simp [srcP]; omega)))) | ((with_reducible refine BX.setCell ?_ ?_ ?_ _); rotate_left; (focus (first | (simp; done) | omega | (simp; omega) | (simp [srcP]; done) | (simp [srcP]; omega))); (focus (first | (simp; done) | omega | (simp; omega) | (simp [srcP]; done) | (simp [srcP]; omega))))))); rintro e4 w4 ⟨u4, rfl, ⟨r4, rfl, hr4a, hr4b⟩, hb4⟩; have hB4 : BX (srcP 124 b A n c bs B) w.heap.size w w4 := BX.then (by (repeat (first | (with_reducible assumption) | (with_reducible exact BX.refl _ _ _) | (with_reducible refine BX.drewN ?_ _) | (with_reducible refine BX.drew ?_) | ((with_reducible refine BX.alloc ?_ ?_ _); rotate_left; (focus (first | (simp; done) | omega | (simp; omega) | (simp [srcP]; done) | (simp [srcP]; omega)))) | ((with_reducible refine BX.setCell ?_ ?_ ?_ _); rotate_left; (focus (first | (simp; done) | omega | (simp; omega) | (simp [srcP]; done) | (simp [srcP]; omega))); (focus (first | (simp; done) | omega | (simp; omega) | (simp [srcP]; done) | (simp [srcP]; omega))))))) (by first | omega | (simp; done) | (simp; omega)) hb4; have hc4 := bxcell hb4; have hf4 := bxfrozen hb4; simp only [srcP_b] at hc4 hf4)
        have hs4 := hb4.size
        have HO4 := Lib.hid (HOY.out.bx hb4 (show b < w2.heap.size + 1 by omega))
        have hs4' : Hid (w2.heap.size + 1 ≤ w4.heap.size) := Lib.hid (by omega)
        (have hh4 := Lib.hid (show w4.heap[w.heap.size]? = some (.cells #[.int .i64 0, .int .i64 0, .slice none 0 0] 41 (0, 0)) from (hb4.block (w.heap.size) (by first | omega | (simp; done) | (simp; omega) | (simp [srcP]; omega)) (by first | omega | (simp; done) | (simp; omega) | (simp [srcP]; omega))).trans (by repeat (first | (with_reducible exact HZo.out) | (with_reducible exact heap_alloc_new _ _) | (rw [heap_drew1]) | (rw [heap_drewN1]) | (rw [Below.heap_setCell _ _ _ _ (by first | omega | (simp; done) | (simp; omega) | (simp [srcP]; omega))]) | (rw [Below.heap_alloc _ _ _ (by first | omega | (simp; done) | (simp; omega) | (simp [srcP]; omega))])))))
        (have hg4 := Lib.hid (show w4.heap[w2.heap.size]? = some (.cells #[.int .i64 (1 + r1), .int .i64 (1 + r2), .slice none 0 0] 41 (0, 0)) from (hb4.block (w2.heap.size) (by first | omega | (simp; done) | (simp; omega) | (simp [srcP]; omega)) (by first | omega | (simp; done) | (simp; omega) | (simp [srcP]; omega))).trans (by repeat (first | (with_reducible exact HGo.out) | (with_reducible exact heap_alloc_new _ _) | (rw [heap_drew1]) | (rw [heap_drewN1]) | (rw [Below.heap_setCell _ _ _ _ (by first | omega | (simp; done) | (simp; omega) | (simp [srcP]; omega))]) | (rw [Below.heap_alloc _ _ _ (by first | omega | (simp; done) | (simp; omega) | (simp [srcP]; omega))])))))
        have HI := HI0
        have hyl := HYL.out
        clear hc4 hf4 hb4 y0 y1 y2 yf
        go_wp2_with (at_builtin; refine wpList_append_own _ rfl _ _ 22 rfl ((w2.heap.size + 1)) 2 i0 (.int .i64 0) 1 8 Try.underlying22 HI.out.2.1 HI.out.2.2.1 HI.out.2.2.2.1 HI.out.2.2.2.2 rfl (by decide) _ _ _ rfl (Own.alloc HO4.out _) ⟨w4.heap.size, 0, none⟩ 1 1 [.int .i64 (r4)] rfl rfl (cell_one_new _ _ _) (one_ok _) (own_max HO4.out (by omega)) (own_bytes HO4.out (by omega)) (own_base hs4'.out) ?_; intro va wa howna hgrowa _; have hoa := Lib.hid (Own.snoc howna); have hga := Lib.hid hgrowa; clear howna hgrowa)
        have hnb : ∀ j, j ≤ w2.heap.size → some j ≠ Value.ownBlock (.slice OA k oc) := fun j hj e => by have := (World.ownsRow.lt HO4.out j e.symm).1; omega
        go_roundw
        case rel => exact ⟨k + 1, by omega, by go_num, Lib.hid ⟨ys ++ [r4], by simp [HYL.out], hoa.out⟩, Lib.hid ((BX.alloc hB4 (by omega) _).grown hga.out (by simp; omega) (fun j hj => by have := (World.ownsRow.lt HO4.out j hj).1; simp; omega)),
          Lib.hid ⟨by have := hga.out.size; simp at this; omega, (hga.out.block _ (by simp; omega) (hnb _ (by omega))).trans (blk_alloc hh4.out (by omega)), (hga.out.block _ (by simp; omega) (hnb _ (Nat.le_refl _))).trans (blk_alloc hg4.out (by omega))⟩⟩
        case measure => simp [intOf]; omega

      · have hk0' : 0 < (k : Int) := by omega
        have hk0n : 0 < k := by omega
        go_wp2_with fail
        (go_at_call 79; with_reducible refine (draw_any b A n c bs B (3) _ (bxinv (B := w.heap.size) ?_ HI) (by omega)).mono ?_; (focus (repeat (first | (with_reducible assumption) | (with_reducible exact BX.refl _ _ _) | (with_reducible refine BX.drewN ?_ _) | (with_reducible refine BX.drew ?_) | ((with_reducible refine BX.alloc ?_ ?_ _); rotate_left; (focus (first | (simp; done) | omega | (simp; omega) | (simp [srcP]; done) | (simp [srcP]; omega)))) | ((with_reducible refine BX.setCell ?_ ?_ ?_ _); rotate_left; (focus (first | (simp; done) | omega | (simp; omega) | (simp [srcP]; done) | (simp [srcP]; omega))); (focus (first | (simp; done) | omega | (simp; omega) | (simp [srcP]; done) | (simp [srcP]; omega))))))); rintro e4 w4 ⟨u4, rfl, ⟨r4, rfl, hr4a, hr4b⟩, hb4⟩; have hB4 : BX (srcP 124 b A n c bs B) w.heap.size w w4 := BX.then (by (repeat (first | (with_reducible assumption) | (with_reducible exact BX.refl _ _ _) | (with_reducible refine BX.drewN ?_ _) | (with_reducible refine BX.drew ?_) | ((with_reducible refine BX.alloc ?_ ?_ _); rotate_left; (focus (first | (simp; done) | omega | (simp; omega) | (simp [srcP]; done) | (simp [srcP]; omega)))) | ((with_reducible refine BX.setCell ?_ ?_ ?_ _); rotate_left; (focus (first | (simp; done) | omega | (simp; omega) | (simp [srcP]; done) | (simp [srcP]; omega))); (focus (first | (simp; done) | omega | (simp; omega) | (simp [srcP]; done) | (simp [srcP]; omega))))))) (by first | omega | (simp; done) | (simp; omega)) hb4; have hc4 := bxcell hb4; have hf4 := bxfrozen hb4; simp only [srcP_b] at hc4 hf4)
        have hs4 := hb4.size
        have HO4 := Lib.hid (HOY.out.bx hb4 (show b < w2.heap.size + 1 by omega))
        have hs4' : Hid (w2.heap.size + 1 ≤ w4.heap.size) := Lib.hid (by omega)
        (have hh4 := Lib.hid (show w4.heap[w.heap.size]? = some (.cells #[.int .i64 0, .int .i64 0, .slice none 0 0] 41 (0, 0)) from (hb4.block (w.heap.size) (by first | omega | (simp; done) | (simp; omega) | (simp [srcP]; omega)) (by first | omega | (simp; done) | (simp; omega) | (simp [srcP]; omega))).trans (by repeat (first | (with_reducible exact HZo.out) | (with_reducible exact heap_alloc_new _ _) | (rw [heap_drew1]) | (rw [heap_drewN1]) | (rw [Below.heap_setCell _ _ _ _ (by first | omega | (simp; done) | (simp; omega) | (simp [srcP]; omega))]) | (rw [Below.heap_alloc _ _ _ (by first | omega | (simp; done) | (simp; omega) | (simp [srcP]; omega))])))))
        (have hg4 := Lib.hid (show w4.heap[w2.heap.size]? = some (.cells #[.int .i64 (1 + r1), .int .i64 (1 + r2), .slice none 0 0] 41 (0, 0)) from (hb4.block (w2.heap.size) (by first | omega | (simp; done) | (simp; omega) | (simp [srcP]; omega)) (by first | omega | (simp; done) | (simp; omega) | (simp [srcP]; omega))).trans (by repeat (first | (with_reducible exact HGo.out) | (with_reducible exact heap_alloc_new _ _) | (rw [heap_drew1]) | (rw [heap_drewN1]) | (rw [Below.heap_setCell _ _ _ _ (by first | omega | (simp; done) | (simp; omega) | (simp [srcP]; omega))]) | (rw [Below.heap_alloc _ _ _ (by first | omega | (simp; done) | (simp; omega) | (simp [srcP]; omega))])))))

        clear hc4 hf4 y0 y1 y2 yf
        by_cases e4 : 0 < r4
        · obtain ⟨g8, c8, e8, hg8, hg8w, hcc, hff⟩ := HO4.out.row (by rw [HYL.out]; omega)
          simp only [Value.slice.injEq] at e8
          obtain ⟨rfl, -, rfl⟩ := e8
          have hck := hcc (k - 1) (by rw [HYL.out]; omega)
          have hki : (k : Int) - 1 = ((k - 1 : Nat) : Int) := by omega
          generalize nth ys (k - 1) = X at *
          obtain ⟨K1, hK1⟩ : ∃ K1, k - 1 = K1 := ⟨_, rfl⟩
          rw [hK1] at hck hki
          have hK1b : K1 < k := by omega
          clear hcc hff hb4 hK1
          have HI := HI0
          have hyl := HYL.out
          go_wp2_with (at_builtin; refine wpList_append_own _ rfl _ _ 22 rfl ((w2.heap.size + 1)) 2 i0 (.int .i64 0) 1 8 Try.underlying22 HI.out.2.1 HI.out.2.2.1 HI.out.2.2.2.1 HI.out.2.2.2.2 rfl (by decide) _ _ _ rfl (Own.alloc HO4.out _) ⟨w4.heap.size, 0, none⟩ 1 1 [.int .i64 (X)] rfl rfl (cell_one_new _ _ _) (one_ok _) (own_max HO4.out (by omega)) (own_bytes HO4.out (by omega)) (own_base hs4'.out) ?_; intro va wa howna hgrowa _; have hoa := Lib.hid (Own.snoc howna); have hga := Lib.hid hgrowa; clear howna hgrowa)
          have hnb : ∀ j, j ≤ w2.heap.size → some j ≠ Value.ownBlock (.slice (some ⟨g8, 0, none⟩) k oc) := fun j hj e => by have := (World.ownsRow.lt HO4.out j e.symm).1; omega
          go_roundw
          case rel => exact ⟨k + 1, by omega, by go_num, Lib.hid ⟨ys ++ [X], by simp [HYL.out], hoa.out⟩, Lib.hid ((BX.alloc hB4 (by omega) _).grown hga.out (by simp; omega) (fun j hj => by have := (World.ownsRow.lt HO4.out j hj).1; simp; omega)),
            Lib.hid ⟨by have := hga.out.size; simp at this; omega, (hga.out.block _ (by simp; omega) (hnb _ (by omega))).trans (blk_alloc hh4.out (by omega)), (hga.out.block _ (by simp; omega) (hnb _ (Nat.le_refl _))).trans (blk_alloc hg4.out (by omega))⟩⟩
          case measure => simp [intOf]; omega

        · go_wp2_with fail
          (go_at_call 79; with_reducible refine (draw_any b A n c bs B (2) _ (bxinv (B := w.heap.size) ?_ HI) (by omega)).mono ?_; (focus (repeat (first | (with_reducible assumption) | (with_reducible exact BX.refl _ _ _) | (with_reducible refine BX.drewN ?_ _) | (with_reducible refine BX.drew ?_) | ((with_reducible refine BX.alloc ?_ ?_ _); rotate_left; (focus (first | (simp; done) | omega | (simp; omega) | (simp [srcP]; done) | (simp [srcP]; omega)))) | ((with_reducible refine BX.setCell ?_ ?_ ?_ _); rotate_left; (focus (first | (simp; done) | omega | (simp; omega) | (simp [srcP]; done) | (simp [srcP]; omega))); (focus (first | (simp; done) | omega | (simp; omega) | (simp [srcP]; done) | (simp [srcP]; omega))))))); rintro e5 w5 ⟨u5, rfl, ⟨r5, rfl, hr5a, hr5b⟩, hb5⟩; have hB5 : BX (srcP 124 b A n c bs B) w.heap.size w w5 := BX.then (by (repeat (first | (with_reducible assumption) | (with_reducible exact BX.refl _ _ _) | (with_reducible refine BX.drewN ?_ _) | (with_reducible refine BX.drew ?_) | ((with_reducible refine BX.alloc ?_ ?_ _); rotate_left; (focus (first | (simp; done) | omega | (simp; omega) | (simp [srcP]; done) | (simp [srcP]; omega)))) | ((with_reducible refine BX.setCell ?_ ?_ ?_ _); rotate_left; (focus (first | (simp; done) | omega | (simp; omega) | (simp [srcP]; done) | (simp [srcP]; omega))); (focus (first | (simp; done) | omega | (simp; omega) | (simp [srcP]; done) | (simp [srcP]; omega))))))) (by first | omega | (simp; done) | (simp; omega)) hb5; have hc5 := bxcell hb5; have hf5 := bxfrozen hb5; simp only [srcP_b] at hc5 hf5)
          have hs5 := hb5.size
          have HO5 := Lib.hid (HO4.out.bx hb5 (show b < w2.heap.size + 1 by omega))
          have hs5' : Hid (w2.heap.size + 1 ≤ w5.heap.size) := Lib.hid (by omega)
          (have hh5 := Lib.hid (show w5.heap[w.heap.size]? = some (.cells #[.int .i64 0, .int .i64 0, .slice none 0 0] 41 (0, 0)) from (hb5.block (w.heap.size) (by first | omega | (simp; done) | (simp; omega) | (simp [srcP]; omega)) (by first | omega | (simp; done) | (simp; omega) | (simp [srcP]; omega))).trans (by repeat (first | (with_reducible exact hh4.out) | (with_reducible exact heap_alloc_new _ _) | (rw [heap_drew1]) | (rw [heap_drewN1]) | (rw [Below.heap_setCell _ _ _ _ (by first | omega | (simp; done) | (simp; omega) | (simp [srcP]; omega))]) | (rw [Below.heap_alloc _ _ _ (by first | omega | (simp; done) | (simp; omega) | (simp [srcP]; omega))])))))
          (have hg5 := Lib.hid (show w5.heap[w2.heap.size]? = some (.cells #[.int .i64 (1 + r1), .int .i64 (1 + r2), .slice none 0 0] 41 (0, 0)) from (hb5.block (w2.heap.size) (by first | omega | (simp; done) | (simp; omega) | (simp [srcP]; omega)) (by first | omega | (simp; done) | (simp; omega) | (simp [srcP]; omega))).trans (by repeat (first | (with_reducible exact hg4.out) | (with_reducible exact heap_alloc_new _ _) | (rw [heap_drew1]) | (rw [heap_drewN1]) | (rw [Below.heap_setCell _ _ _ _ (by first | omega | (simp; done) | (simp; omega) | (simp [srcP]; omega))]) | (rw [Below.heap_alloc _ _ _ (by first | omega | (simp; done) | (simp; omega) | (simp [srcP]; omega))])))))
          have HI := HI0
          have hyl := HYL.out
          clear hc5 hf5 hb5
          go_wp2_with (at_builtin; refine wpList_append_own _ rfl _ _ 22 rfl ((w2.heap.size + 1)) 2 i0 (.int .i64 0) 1 8 Try.underlying22 HI.out.2.1 HI.out.2.2.1 HI.out.2.2.2.1 HI.out.2.2.2.2 rfl (by decide) _ _ _ rfl (Own.alloc HO5.out _) ⟨w5.heap.size, 0, none⟩ 1 1 [.int .i64 (r5)] rfl rfl (cell_one_new _ _ _) (one_ok _) (own_max HO5.out (by omega)) (own_bytes HO5.out (by omega)) (own_base hs5'.out) ?_; intro va wa howna hgrowa _; have hoa := Lib.hid (Own.snoc howna); have hga := Lib.hid hgrowa; clear howna hgrowa)
          have hnb : ∀ j, j ≤ w2.heap.size → some j ≠ Value.ownBlock (.slice OA k oc) := fun j hj e => by have := (World.ownsRow.lt HO5.out j e.symm).1; omega
          go_roundw
          case rel => exact ⟨k + 1, by omega, by go_num, Lib.hid ⟨ys ++ [r5], by simp [HYL.out], hoa.out⟩, Lib.hid ((BX.alloc hB5 (by omega) _).grown hga.out (by simp; omega) (fun j hj => by have := (World.ownsRow.lt HO5.out j hj).1; simp; omega)),
            Lib.hid ⟨by have := hga.out.size; simp at this; omega, (hga.out.block _ (by simp; omega) (hnb _ (by omega))).trans (blk_alloc hh5.out (by omega)), (hga.out.block _ (by simp; omega) (hnb _ (Nat.le_refl _))).trans (blk_alloc hg5.out (by omega))⟩⟩
          case measure => simp [intOf]; omega

    · obtain rfl : k = P := by omega
      have hkP' : ¬ ((k : Int) < (k : Int)) := by omega
      have HB5 := Lib.hid hBo
      obtain ⟨OA, oc, rfl, -⟩ := HOY.out.shape
      rw [HYL.out] at HOY ⊢
      obtain ⟨z0, z1, z2, zf⟩ := blk3 HZo.out
      obtain ⟨s0, s1, s2⟩ := res3 HZo.out (.int .i64 (1 + r1)) (.int .i64 (1 + r2)) (.slice OA k oc)
      have hwG1 : w.heap.size < w2.heap.size + 1 := by omega
      go_wp2_with fail
      (try simp only [Exit.inBlock, Exit.then]); refine bodyPost_ret (by simp [results, Try.results61, go_sem, s0, s1, s2]; try rfl) rfl ?_
      exact ⟨_, rfl, ⟨_, _, _, ys, rfl, by rw [HYL.out]; omega, by rw [HYL.out]; omega, ((((HOY.out.setLt (p := ⟨w.heap.size, 0, none⟩) hwG1 _).setLt (p := ⟨w.heap.size, 1, none⟩) hwG1 _).setLt (p := ⟨w.heap.size, 2, none⟩) hwG1 _)).more (Nat.le_of_lt hwG1), by omega, by omega, by omega, by omega⟩, ((HB5.out.setCell (p := ⟨w.heap.size, 0, none⟩) (Nat.le_refl _) hbw _).setCell (p := ⟨w.heap.size, 1, none⟩) (Nat.le_refl _) hbw _).setCell (p := ⟨w.heap.size, 2, none⟩) (Nat.le_refl _) hbw _⟩
end Go.Proofs.Ytflpllmbpfdnjaa
namespace Go.Proofs.Ytflpllmbpfdnjaa
set_option linter.unusedSimpArgs false
open Go.RowKit

theorem blk6q {w : World} {b t : Nat} {x0 x1 x2 x3 x4 x5 : Value} (h : w.heap[b]? = some (.cells #[x0, x1, x2, x3, x4, x5] t (0, 0))) :
    w.cell? ⟨b, 0, none⟩ = some x0 ∧ w.cell? ⟨b, 1, none⟩ = some x1 ∧ w.cell? ⟨b, 2, none⟩ = some x2 ∧ w.cell? ⟨b, 3, none⟩ = some x3 ∧ w.cell? ⟨b, 4, none⟩ = some x4 ∧ w.cell? ⟨b, 5, none⟩ = some x5 ∧ ∀ k, w.frozen? ⟨b, k, none⟩ = false := by
  refine ⟨?_, ?_, ?_, ?_, ?_, ?_, fun k => ?_⟩ <;> simp [World.cell?, World.frozen?, h]
theorem res6q {w : World} {b t : Nat} {x0 x1 x2 x3 x4 x5 : Value} (h : w.heap[b]? = some (.cells #[x0, x1, x2, x3, x4, x5] t (0, 0))) (y0 y1 y2 y3 y4 y5 : Value) :
    (((((((w.setCell ⟨b, 0, none⟩ y0).setCell ⟨b, 1, none⟩ y1).setCell ⟨b, 2, none⟩ y2).setCell ⟨b, 3, none⟩ y3).setCell ⟨b, 4, none⟩ y4).setCell ⟨b, 5, none⟩ y5)).heap[b]? = some (.cells #[y0, y1, y2, y3, y4, y5] t (0, 0)) := by
  have h0 := blk3_set (k := 0) (u := y0) h
  have h1 := blk3_set (k := 1) (u := y1) h0
  have h2 := blk3_set (k := 2) (u := y2) h1
  have h3 := blk3_set (k := 3) (u := y3) h2
  have h4 := blk3_set (k := 4) (u := y4) h3
  have h5 := blk3_set (k := 5) (u := y5) h4
  simpa using h5
theorem QP.at6 {s : SP} {w0 w : World} {g0 g1 t1 : Nat} {o0 : Obj} {x0 x1 x2 x3 x4 x5 : Int} (h : QP s w0 g0 g1 o0 t1 [x0, x1, x2, x3, x4, x5] w) :
    w.cell? ⟨g1, 0, none⟩ = some (.int .i64 x0) ∧ w.cell? ⟨g1, 1, none⟩ = some (.int .i64 x1) ∧ w.cell? ⟨g1, 2, none⟩ = some (.int .i64 x2) ∧ w.cell? ⟨g1, 3, none⟩ = some (.int .i64 x3) ∧ w.cell? ⟨g1, 4, none⟩ = some (.int .i64 x4) ∧ w.cell? ⟨g1, 5, none⟩ = some (.int .i64 x5) ∧ ∀ k, w.frozen? ⟨g1, k, none⟩ = false :=
  blk6q (show w.heap[g1]? = some (.cells #[.int .i64 x0, .int .i64 x1, .int .i64 x2, .int .i64 x3, .int .i64 x4, .int .i64 x5] t1 (0, 0)) from h.k1)
/-- One of two numbers. -/
def pick2 (R : Nat) (x y : Int) : Int := if R = 0 then x else y
theorem pick2_or (R : Nat) (x y : Int) : pick2 R x y = x ∨ pick2 R x y = y := by unfold pick2; split <;> simp
theorem two_at {R : Nat} (h : R < 2) : ∀ x y : Int, (#[Value.int .i64 x, Value.int .i64 y] : Array Value)[R]? = some (.int .i64 (pick2 R x y)) := by
  intro x y
  rcases (show R = 0 ∨ R = 1 by omega) with rfl | rfl <;> rfl
theorem two_atL {R : Nat} (hR : R < 2) : ∀ (x y : Int) (h : R < [Value.int .i64 x, Value.int .i64 y].length), [Value.int .i64 x, Value.int .i64 y][R]'h = .int .i64 (pick2 R x y) := by
  intro x y h
  rcases (show R = 0 ∨ R = 1 by omega) with rfl | rfl <;> rfl
theorem blk2R {w : World} {b t R : Nat} {x y : Int} (h : w.heap[b]? = some (.cells #[.int .i64 x, .int .i64 y] t (0, 0))) (hR : R < 2) : w.cell? ⟨b, R, none⟩ = some (.int .i64 (pick2 R x y)) := by
  have := blk_cell h R
  rw [this]; exact two_at hR x y
theorem gen_world {P Q : World → Prop} {W : World} (h : Q W) (k : ∀ W', Q W' → P W') : P W := k W h
/-- Bounds of what is drawn for a print. -/
def PB (x0 x1 x2 x3 x4 x5 : Int) : Prop := (0 ≤ x0 ∧ x0 ≤ 13) ∧ (0 ≤ x1 ∧ x1 ≤ 13) ∧ (-1 ≤ x2 ∧ x2 ≤ 17) ∧ (-20 ≤ x3 ∧ x3 ≤ 20) ∧ (0 ≤ x4 ∧ x4 ≤ 60) ∧ 0 ≤ x5 ∧ x5 ≤ 256
/-- A block of a print within the bounds, while draws go on. -/
def PSB (s : SP) (w0 : World) (g0 g1 : Nat) (o0 : Obj) (t1 : Nat) (w : World) : Prop := ∃ x0 x1 x2 x3 x4 x5 : Int, ((0 ≤ x0 ∧ x0 ≤ 13) ∧ (0 ≤ x1 ∧ x1 ≤ 13) ∧ (-1 ≤ x2 ∧ x2 ≤ 17) ∧ (-20 ≤ x3 ∧ x3 ≤ 20) ∧ (0 ≤ x4 ∧ x4 ≤ 60) ∧ 0 ≤ x5 ∧ x5 ≤ 256) ∧ QP s w0 g0 g1 o0 t1 [x0, x1, x2, x3, x4, x5] w

set_option maxRecDepth 20000 in
set_option maxHeartbeats 8000000 in
theorem l21Draw_any (b : Nat) (A : Option Addr) (n c : Nat) (bs : List Int) (B : Nat) (w : World) (hI : (srcP 124 b A n c bs B).I w) :
    Calls Try.prog 62 #[.pointer (some ⟨b, 0, none⟩)] w fun e w' =>
      ∃ u, e = .returned u ∧ (∃ x0 x1 x2 x3 x4 x5 : Int, u = .agg #[.int .i64 x0, .int .i64 x1, .int .i64 x2, .int .i64 x3, .int .i64 x4, .int .i64 x5] ∧ ((0 ≤ x0 ∧ x0 ≤ 13) ∧ (0 ≤ x1 ∧ x1 ≤ 13) ∧ (-1 ≤ x2 ∧ x2 ≤ 17) ∧ (-20 ≤ x3 ∧ x3 ≤ 20) ∧ (0 ≤ x4 ∧ x4 ≤ 60) ∧ 0 ≤ x5 ∧ x5 ≤ 256)) ∧ BX (srcP 124 b A n c bs B) w.heap.size w w' := by
  have hbw := srcP_lt hI
  have HI := Lib.hid hI
  clear hI
  go_enter Try.func62, Try.ntmps62
  go_wp2_with fail
  (go_at_call 79; with_reducible refine (draw_any b A n c bs B (4) _ (bxinv (B := w.heap.size) ?_ HI) (by omega)).mono ?_; (focus (repeat (first | (with_reducible assumption) | (with_reducible exact BX.refl _ _ _) | (with_reducible refine BX.drewN ?_ _) | (with_reducible refine BX.drew ?_) | ((with_reducible refine BX.alloc ?_ ?_ _); rotate_left; (focus (first | (simp; done) | omega | (simp; omega) | (simp [srcP]; done) | (simp [srcP]; omega)))) | ((with_reducible refine BX.setCell ?_ ?_ ?_ _); rotate_left; (focus (first | (simp; done) | omega | (simp; omega) | (simp [srcP]; done) | (simp [srcP]; omega))); (focus (first | (simp; done) | omega | (simp; omega) | (simp [srcP]; done) | (simp [srcP]; omega))))))); rintro e1 w1 ⟨u1, rfl, ⟨r1, rfl, hr1a, hr1b⟩, hb1⟩; have hB1 : BX (srcP 124 b A n c bs B) w.heap.size w w1 := BX.then (by (repeat (first | (with_reducible assumption) | (with_reducible exact BX.refl _ _ _) | (with_reducible refine BX.drewN ?_ _) | (with_reducible refine BX.drew ?_) | ((with_reducible refine BX.alloc ?_ ?_ _); rotate_left; (focus (first | (simp; done) | omega | (simp; omega) | (simp [srcP]; done) | (simp [srcP]; omega)))) | ((with_reducible refine BX.setCell ?_ ?_ ?_ _); rotate_left; (focus (first | (simp; done) | omega | (simp; omega) | (simp [srcP]; done) | (simp [srcP]; omega))); (focus (first | (simp; done) | omega | (simp; omega) | (simp [srcP]; done) | (simp [srcP]; omega))))))) (by first | omega | (simp; done) | (simp; omega)) hb1; have hc1 := bxcell hb1; have hf1 := bxfrozen hb1; simp only [srcP_b] at hc1 hf1; have hz1a : w.heap.size < w1.heap.size := (by have := hb1.size; first | omega | (simp at this; omega)))
  (have hh1 := Lib.hid (show w1.heap[w.heap.size]? = some (.cells #[.int .i64 0, .int .i64 0, .int .i64 0, .int .i64 0, .int .i64 0, .int .i64 0] 53 (0, 0)) from (hb1.block (w.heap.size) (by first | omega | (simp; done) | (simp; omega) | (simp [srcP]; omega)) (by first | omega | (simp; done) | (simp; omega) | (simp [srcP]; omega))).trans (by repeat (first | (with_reducible exact rfl) | (with_reducible exact heap_alloc_new _ _) | (rw [heap_drew1]) | (rw [heap_drewN1]) | (rw [Below.heap_setCell _ _ _ _ (by first | omega | (simp; done) | (simp; omega) | (simp [srcP]; omega))]) | (rw [Below.heap_alloc _ _ _ (by first | omega | (simp; done) | (simp; omega) | (simp [srcP]; omega))])))))
  have hbw1 : b < w1.heap.size := by omega
  clear hc1 hf1
  go_wp2_with fail
  (go_at_call 79; with_reducible refine (draw_any b A n c bs B (4) _ (bxinv (B := w.heap.size) ?_ HI) (by omega)).mono ?_; (focus (repeat (first | (with_reducible assumption) | (with_reducible exact BX.refl _ _ _) | (with_reducible refine BX.drewN ?_ _) | (with_reducible refine BX.drew ?_) | ((with_reducible refine BX.alloc ?_ ?_ _); rotate_left; (focus (first | (simp; done) | omega | (simp; omega) | (simp [srcP]; done) | (simp [srcP]; omega)))) | ((with_reducible refine BX.setCell ?_ ?_ ?_ _); rotate_left; (focus (first | (simp; done) | omega | (simp; omega) | (simp [srcP]; done) | (simp [srcP]; omega))); (focus (first | (simp; done) | omega | (simp; omega) | (simp [srcP]; done) | (simp [srcP]; omega))))))); rintro e2 w2 ⟨u2, rfl, ⟨r2, rfl, hr2a, hr2b⟩, hb2⟩; have hB2 : BX (srcP 124 b A n c bs B) w.heap.size w w2 := BX.then (by (repeat (first | (with_reducible assumption) | (with_reducible exact BX.refl _ _ _) | (with_reducible refine BX.drewN ?_ _) | (with_reducible refine BX.drew ?_) | ((with_reducible refine BX.alloc ?_ ?_ _); rotate_left; (focus (first | (simp; done) | omega | (simp; omega) | (simp [srcP]; done) | (simp [srcP]; omega)))) | ((with_reducible refine BX.setCell ?_ ?_ ?_ _); rotate_left; (focus (first | (simp; done) | omega | (simp; omega) | (simp [srcP]; done) | (simp [srcP]; omega))); (focus (first | (simp; done) | omega | (simp; omega) | (simp [srcP]; done) | (simp [srcP]; omega))))))) (by first | omega | (simp; done) | (simp; omega)) hb2; have hc2 := bxcell hb2; have hf2 := bxfrozen hb2; simp only [srcP_b] at hc2 hf2; have hz2a : w.heap.size < w2.heap.size := (by have := hb2.size; first | omega | (simp at this; omega)))
  (have hh2 := Lib.hid (show w2.heap[w.heap.size]? = some (.cells #[.int .i64 0, .int .i64 0, .int .i64 0, .int .i64 0, .int .i64 0, .int .i64 0] 53 (0, 0)) from (hb2.block (w.heap.size) (by first | omega | (simp; done) | (simp; omega) | (simp [srcP]; omega)) (by first | omega | (simp; done) | (simp; omega) | (simp [srcP]; omega))).trans (by repeat (first | (with_reducible exact hh1.out) | (with_reducible exact heap_alloc_new _ _) | (rw [heap_drew1]) | (rw [heap_drewN1]) | (rw [Below.heap_setCell _ _ _ _ (by first | omega | (simp; done) | (simp; omega) | (simp [srcP]; omega))]) | (rw [Below.heap_alloc _ _ _ (by first | omega | (simp; done) | (simp; omega) | (simp [srcP]; omega))])))))
  have hbw2 : b < w2.heap.size := by omega
  clear hc2 hf2
  go_wp2_with fail
  (go_at_call 79; with_reducible refine (draw_any b A n c bs B (4) _ (bxinv (B := w.heap.size) ?_ HI) (by omega)).mono ?_; (focus (repeat (first | (with_reducible assumption) | (with_reducible exact BX.refl _ _ _) | (with_reducible refine BX.drewN ?_ _) | (with_reducible refine BX.drew ?_) | ((with_reducible refine BX.alloc ?_ ?_ _); rotate_left; (focus (first | (simp; done) | omega | (simp; omega) | (simp [srcP]; done) | (simp [srcP]; omega)))) | ((with_reducible refine BX.setCell ?_ ?_ ?_ _); rotate_left; (focus (first | (simp; done) | omega | (simp; omega) | (simp [srcP]; done) | (simp [srcP]; omega))); (focus (first | (simp; done) | omega | (simp; omega) | (simp [srcP]; done) | (simp [srcP]; omega))))))); rintro e3 w3 ⟨u3, rfl, ⟨r3, rfl, hr3a, hr3b⟩, hb3⟩; have hB3 : BX (srcP 124 b A n c bs B) w.heap.size w w3 := BX.then (by (repeat (first | (with_reducible assumption) | (with_reducible exact BX.refl _ _ _) | (with_reducible refine BX.drewN ?_ _) | (with_reducible refine BX.drew ?_) | ((with_reducible refine BX.alloc ?_ ?_ _); rotate_left; (focus (first | (simp; done) | omega | (simp; omega) | (simp [srcP]; done) | (simp [srcP]; omega)))) | ((with_reducible refine BX.setCell ?_ ?_ ?_ _); rotate_left; (focus (first | (simp; done) | omega | (simp; omega) | (simp [srcP]; done) | (simp [srcP]; omega))); (focus (first | (simp; done) | omega | (simp; omega) | (simp [srcP]; done) | (simp [srcP]; omega))))))) (by first | omega | (simp; done) | (simp; omega)) hb3; have hc3 := bxcell hb3; have hf3 := bxfrozen hb3; simp only [srcP_b] at hc3 hf3; have hz3a : w.heap.size < w3.heap.size := (by have := hb3.size; first | omega | (simp at this; omega)))
  (have hh3 := Lib.hid (show w3.heap[w.heap.size]? = some (.cells #[.int .i64 0, .int .i64 0, .int .i64 0, .int .i64 0, .int .i64 0, .int .i64 0] 53 (0, 0)) from (hb3.block (w.heap.size) (by first | omega | (simp; done) | (simp; omega) | (simp [srcP]; omega)) (by first | omega | (simp; done) | (simp; omega) | (simp [srcP]; omega))).trans (by repeat (first | (with_reducible exact hh2.out) | (with_reducible exact heap_alloc_new _ _) | (rw [heap_drew1]) | (rw [heap_drewN1]) | (rw [Below.heap_setCell _ _ _ _ (by first | omega | (simp; done) | (simp; omega) | (simp [srcP]; omega))]) | (rw [Below.heap_alloc _ _ _ (by first | omega | (simp; done) | (simp; omega) | (simp [srcP]; omega))])))))
  have hbw3 : b < w3.heap.size := by omega
  clear hc3 hf3
  go_wp2_with fail
  (go_at_call 79; with_reducible refine (draw_any b A n c bs B (60) _ (bxinv (B := w.heap.size) ?_ HI) (by omega)).mono ?_; (focus (repeat (first | (with_reducible assumption) | (with_reducible exact BX.refl _ _ _) | (with_reducible refine BX.drewN ?_ _) | (with_reducible refine BX.drew ?_) | ((with_reducible refine BX.alloc ?_ ?_ _); rotate_left; (focus (first | (simp; done) | omega | (simp; omega) | (simp [srcP]; done) | (simp [srcP]; omega)))) | ((with_reducible refine BX.setCell ?_ ?_ ?_ _); rotate_left; (focus (first | (simp; done) | omega | (simp; omega) | (simp [srcP]; done) | (simp [srcP]; omega))); (focus (first | (simp; done) | omega | (simp; omega) | (simp [srcP]; done) | (simp [srcP]; omega))))))); rintro e4 w4 ⟨u4, rfl, ⟨r4, rfl, hr4a, hr4b⟩, hb4⟩; have hB4 : BX (srcP 124 b A n c bs B) w.heap.size w w4 := BX.then (by (repeat (first | (with_reducible assumption) | (with_reducible exact BX.refl _ _ _) | (with_reducible refine BX.drewN ?_ _) | (with_reducible refine BX.drew ?_) | ((with_reducible refine BX.alloc ?_ ?_ _); rotate_left; (focus (first | (simp; done) | omega | (simp; omega) | (simp [srcP]; done) | (simp [srcP]; omega)))) | ((with_reducible refine BX.setCell ?_ ?_ ?_ _); rotate_left; (focus (first | (simp; done) | omega | (simp; omega) | (simp [srcP]; done) | (simp [srcP]; omega))); (focus (first | (simp; done) | omega | (simp; omega) | (simp [srcP]; done) | (simp [srcP]; omega))))))) (by first | omega | (simp; done) | (simp; omega)) hb4; have hc4 := bxcell hb4; have hf4 := bxfrozen hb4; simp only [srcP_b] at hc4 hf4; have hz4a : w.heap.size < w4.heap.size := (by have := hb4.size; first | omega | (simp at this; omega)))
  (have hh4 := Lib.hid (show w4.heap[w.heap.size]? = some (.cells #[.int .i64 0, .int .i64 0, .int .i64 0, .int .i64 0, .int .i64 0, .int .i64 0] 53 (0, 0)) from (hb4.block (w.heap.size) (by first | omega | (simp; done) | (simp; omega) | (simp [srcP]; omega)) (by first | omega | (simp; done) | (simp; omega) | (simp [srcP]; omega))).trans (by repeat (first | (with_reducible exact hh3.out) | (with_reducible exact heap_alloc_new _ _) | (rw [heap_drew1]) | (rw [heap_drewN1]) | (rw [Below.heap_setCell _ _ _ _ (by first | omega | (simp; done) | (simp; omega) | (simp [srcP]; omega))]) | (rw [Below.heap_alloc _ _ _ (by first | omega | (simp; done) | (simp; omega) | (simp [srcP]; omega))])))))
  have hbw4 : b < w4.heap.size := by omega
  clear hc4 hf4
  go_wp2_with fail
  (go_at_call 79; with_reducible refine (draw_any b A n c bs B (106) _ (bxinv (B := w.heap.size) ?_ HI) (by omega)).mono ?_; (focus (repeat (first | (with_reducible assumption) | (with_reducible exact BX.refl _ _ _) | (with_reducible refine BX.drewN ?_ _) | (with_reducible refine BX.drew ?_) | ((with_reducible refine BX.alloc ?_ ?_ _); rotate_left; (focus (first | (simp; done) | omega | (simp; omega) | (simp [srcP]; done) | (simp [srcP]; omega)))) | ((with_reducible refine BX.setCell ?_ ?_ ?_ _); rotate_left; (focus (first | (simp; done) | omega | (simp; omega) | (simp [srcP]; done) | (simp [srcP]; omega))); (focus (first | (simp; done) | omega | (simp; omega) | (simp [srcP]; done) | (simp [srcP]; omega))))))); rintro e5 w5 ⟨u5, rfl, ⟨r5, rfl, hr5a, hr5b⟩, hb5⟩; have hB5 : BX (srcP 124 b A n c bs B) w.heap.size w w5 := BX.then (by (repeat (first | (with_reducible assumption) | (with_reducible exact BX.refl _ _ _) | (with_reducible refine BX.drewN ?_ _) | (with_reducible refine BX.drew ?_) | ((with_reducible refine BX.alloc ?_ ?_ _); rotate_left; (focus (first | (simp; done) | omega | (simp; omega) | (simp [srcP]; done) | (simp [srcP]; omega)))) | ((with_reducible refine BX.setCell ?_ ?_ ?_ _); rotate_left; (focus (first | (simp; done) | omega | (simp; omega) | (simp [srcP]; done) | (simp [srcP]; omega))); (focus (first | (simp; done) | omega | (simp; omega) | (simp [srcP]; done) | (simp [srcP]; omega))))))) (by first | omega | (simp; done) | (simp; omega)) hb5; have hc5 := bxcell hb5; have hf5 := bxfrozen hb5; simp only [srcP_b] at hc5 hf5; have hz5a : w.heap.size < w5.heap.size := (by have := hb5.size; first | omega | (simp at this; omega)))
  (have hh5 := Lib.hid (show w5.heap[w.heap.size]? = some (.cells #[.int .i64 0, .int .i64 0, .int .i64 0, .int .i64 0, .int .i64 0, .int .i64 0] 53 (0, 0)) from (hb5.block (w.heap.size) (by first | omega | (simp; done) | (simp; omega) | (simp [srcP]; omega)) (by first | omega | (simp; done) | (simp; omega) | (simp [srcP]; omega))).trans (by repeat (first | (with_reducible exact hh4.out) | (with_reducible exact heap_alloc_new _ _) | (rw [heap_drew1]) | (rw [heap_drewN1]) | (rw [Below.heap_setCell _ _ _ _ (by first | omega | (simp; done) | (simp; omega) | (simp [srcP]; omega))]) | (rw [Below.heap_alloc _ _ _ (by first | omega | (simp; done) | (simp; omega) | (simp [srcP]; omega))])))))
  have hbw5 : b < w5.heap.size := by omega
  clear hc5 hf5
  have HP5 : Hid (QP (srcP 124 b A n c bs B) w w.heap.size w5.heap.size (.cells #[.int .i64 0, .int .i64 0, .int .i64 0, .int .i64 0, .int .i64 0, .int .i64 0] 53 (0, 0)) 53 [1 + r1, 1 + r2, r3, 0, r4, 150 + r5] (w5.alloc (.cells #[.int .i64 (1 + r1), .int .i64 (1 + r2), .int .i64 r3, .int .i64 0, .int .i64 r4, .int .i64 (150 + r5)] 53))) :=
    Lib.hid ⟨⟨hbw, Nat.le_refl _, hz5a, by simp⟩, hB5.alloc (Nat.le_of_lt hz5a) _, hB5.alloc (Nat.le_of_lt hz5a) _ |>.inv HI.out, blk_alloc hh5.out hz5a, heap_alloc_new _ _⟩
  clear hB1 hB2 hB3 hB4 hB5 hb1 hb2 hb3 hb4 hb5 hh1 hh2 hh3 hh4 hh5
  go_upto_region 2 with fail
  obtain ⟨g1, hg1⟩ : ∃ g1, w5.heap.size = g1 := ⟨_, rfl⟩
  rw [hg1] at HP5 ⊢
  generalize w5.alloc (.cells #[.int .i64 (1 + r1), .int .i64 (1 + r2), .int .i64 r3, .int .i64 0, .int .i64 r4, .int .i64 (150 + r5)] 53) = w6 at *
  obtain ⟨fa, -, -, fb, -, -, fc⟩ := HP5.out.at6
  have v1 : IntKind.i64.wrap (2 * (1 + r1)) = 2 * (1 + r1) := by rw [IntKind.wrap_i64]; omega
  have v2 : IntKind.i64.wrap (2 * (1 + r1) - 1) = 2 * (1 + r1) - 1 := by rw [IntKind.wrap_i64]; omega
  go_cut [] (fun wx => Hid (∃ B3 : Int, (-4 ≤ B3 ∧ B3 ≤ 8) ∧ QP (srcP 124 b A n c bs B) w w.heap.size g1 (.cells #[.int .i64 0, .int .i64 0, .int .i64 0, .int .i64 0, .int .i64 0, .int .i64 0] 53 (0, 0)) 53 [1 + r1, 1 + r2, r3, B3, r4, 150 + r5] wx))
  case first =>
    go_region_with (go_at_call 79; with_reducible refine (draw_any b A n c bs B (2 * (1 + r1) - 1) _ ?_ (by omega)).mono ?_; (focus (first | exact HP5.out.inv | exact HP5.out.drew.inv | exact (HP5.out.alloc _).drew.inv | exact (HP5.out.alloc _).inv)); rintro e66 w66 ⟨u66, rfl, ⟨r66, rfl, hr66a, hr66b⟩, hb66⟩; (first | have HP66 := Lib.hid (HP5.out.step hb66) | have HP66 := Lib.hid (HP5.out.drew.step hb66) | have HP66 := Lib.hid ((HP5.out.alloc _).step hb66) | have HP66 := Lib.hid ((HP5.out.alloc _).drew.step hb66)); obtain ⟨fa2, -, -, fb2, -, -, fc2⟩ := HP66.out.at6; have v3 : IntKind.i64.wrap (r66 - (1 + r1)) = r66 - (1 + r1) := (by rw [IntKind.wrap_i64]; omega); have v4 : IntKind.i64.wrap (r66 - (1 + r1) + 1) = r66 - (1 + r1) + 1 := (by rw [IntKind.wrap_i64]; omega))
    all_goals
      go_wp2_with fail
      go_meet
      case rel => exact Lib.hid ⟨_, ⟨by omega, by omega⟩, HP66.out.set 3 _⟩
  rename World => v6
  obtain ⟨B3, ⟨hB3a, hB3b⟩, hq6⟩ := hcut.out
  have HS6 := Lib.hid hq6
  clear hcut hq6 fa fb fc v1 v2 HP5
  have hp1 : 1 ≤ 1 + r1 ∧ 1 + r1 ≤ 4 := by omega
  generalize 1 + r1 = p1 at *
  go_wp2_with fail
  go_at_call 79; with_reducible refine (draw_any b A n c bs B (30) _ ?_ (by omega)).mono ?_; (focus (first | exact HS6.out.inv | exact HS6.out.drew.inv | exact (HS6.out.alloc _).drew.inv | exact (HS6.out.alloc _).inv)); rintro e7 w7 ⟨u7, rfl, ⟨r7, rfl, hr7a, hr7b⟩, hb7⟩; (first | have HP7 := Lib.hid (HS6.out.step hb7) | have HP7 := Lib.hid (HS6.out.drew.step hb7) | have HP7 := Lib.hid ((HS6.out.alloc _).step hb7) | have HP7 := Lib.hid ((HS6.out.alloc _).drew.step hb7))
  clear hb7
  rcases (show r7 = 0 ∨ r7 = 1 ∨ r7 = 2 ∨ r7 = 3 ∨ (¬ r7 = 0 ∧ ¬ r7 = 1 ∧ ¬ r7 = 2 ∧ ¬ r7 = 3) by omega) with rfl | rfl | rfl | rfl | ⟨n0, n1, n2, n3⟩
  · have hgw : g1 < w7.heap.size := HP7.out.sz.2.2.2
    have hbw7 : b < w7.heap.size + 1 := by have := HP7.out.sz; simp only [srcP_b] at this; omega
    go_wp2_with fail
    go_at_call 79; with_reducible refine (draw_any b A n c bs B (3) _ ?_ (by omega)).mono ?_; (focus (first | exact HP7.out.inv | exact HP7.out.drew.inv | exact (HP7.out.alloc _).drew.inv | exact (HP7.out.alloc _).inv)); rintro e8 w8 ⟨u8, rfl, ⟨r8, rfl, hr8a, hr8b⟩, hb8⟩; (first | have HP8 := Lib.hid (HP7.out.step hb8) | have HP8 := Lib.hid (HP7.out.drew.step hb8) | have HP8 := Lib.hid ((HP7.out.alloc _).step hb8) | have HP8 := Lib.hid ((HP7.out.alloc _).drew.step hb8))
    have hp8 : w8.heap[w7.heap.size]? = some (.cells #[.int .i64 (0), .int .i64 (12), .int .i64 (13)] 2 (0, 0)) := (hb8.block w7.heap.size (by simp) (by simp; omega)).trans (heap_alloc_new _ _)
    obtain ⟨v, R, hv, hR, hck, hvl⟩ : ∃ (v : Int) (R : Nat), r8 = R ∧ R < 3 ∧ w8.cell? ⟨w7.heap.size, R, none⟩ = some (.int .i64 v) ∧ (v = 0 ∨ v = 12 ∨ v = 13) := by
      rcases (show r8 = 0 ∨ r8 = 1 ∨ r8 = 2 by omega) with rfl | rfl | rfl
      · exact ⟨0, 0, rfl, by decide, (blk_cell hp8 0).trans rfl, .inl rfl⟩
      · exact ⟨12, 1, rfl, by decide, (blk_cell hp8 1).trans rfl, .inr (.inl rfl)⟩
      · exact ⟨13, 2, rfl, by decide, (blk_cell hp8 2).trans rfl, .inr (.inr (rfl))⟩
    subst hv
    clear hp8
    obtain ⟨fe0, fe1, fe2, fe3, fe4, fe5, ff⟩ := HP8.out.at6
    go_upto_region 12 with fail
    refine gen_world (P := fun W' => Code.wp _ _ _ _ W') (Q := fun W' => PSB (srcP 124 b A n c bs B) w w.heap.size g1 (.cells #[.int .i64 0, .int .i64 0, .int .i64 0, .int .i64 0, .int .i64 0, .int .i64 0] 53 (0, 0)) 53 W') ?_ ?_
    · first | exact ⟨v, 1 + r2, r3, B3, r4, 150 + r5, by omega, HP8.out.set 0 _⟩
    · intro wz HSz
      go_upto_region 12 with fail
      obtain ⟨x0, x1, x2, x3, x4, x5, hbd, hqz⟩ := HSz
      have HPz := Lib.hid hqz
      clear hqz
      obtain ⟨d0, d1, d2, d3, d4, d5, -⟩ := blk6q (show wz.heap[g1]? = some (.cells #[.int .i64 x0, .int .i64 x1, .int .i64 x2, .int .i64 x3, .int .i64 x4, .int .i64 x5] 53 (0, 0)) from HPz.out.k1)
      obtain ⟨z0, z1, z2, z3, z4, z5, zf⟩ := blk6q HPz.out.k0
      go_wp2_with fail
      obtain ⟨s0, s1, s2, s3, s4, s5, -⟩ := blk6q (res6q HPz.out.k0 (.int .i64 x0) (.int .i64 x1) (.int .i64 x2) (.int .i64 x3) (.int .i64 x4) (.int .i64 x5))
      (try simp only [Exit.inBlock, Exit.then]); refine bodyPost_ret (by simp [results, Try.results62, go_sem, s0, s1, s2, s3, s4, s5]; try rfl) rfl ?_
      exact ⟨_, rfl, ⟨x0, x1, x2, x3, x4, x5, rfl, hbd⟩, (bxset (k := 5) (u := .int .i64 x5) (bxset (k := 4) (u := .int .i64 x4) (bxset (k := 3) (u := .int .i64 x3) (bxset (k := 2) (u := .int .i64 x2) (bxset (k := 1) (u := .int .i64 x1) (bxset (k := 0) (u := .int .i64 x0) HPz.out.bx hbw (Nat.le_refl _)) hbw (Nat.le_refl _)) hbw (Nat.le_refl _)) hbw (Nat.le_refl _)) hbw (Nat.le_refl _)) hbw (Nat.le_refl _))⟩

  · go_wp2_with fail
    obtain ⟨fd0, fd1, fd2, fd3, fd4, fd5, fb⟩ := HP7.out.at6
    have vneg : IntKind.i64.wrap (-p1) = -p1 := by rw [IntKind.wrap_i64]; omega
    have hgw : g1 < w7.heap.size := HP7.out.sz.2.2.2
    have hbg : b < g1 := by have := HP7.out.sz; simp only [srcP_b] at this; omega
    have hwb : b < w7.heap.size := by omega
    have hwb1 : b < w7.heap.size + 1 := by omega
    go_region_with (go_at_call 79; with_reducible refine (draw_any b A n c bs B (2) _ ?_ (by omega)).mono ?_; (focus (first | exact HP7.out.inv | exact HP7.out.drew.inv | exact (HP7.out.alloc _).drew.inv | exact (HP7.out.alloc _).inv)); rintro e8 w8 ⟨u8, rfl, ⟨r8, rfl, hr8a, hr8b⟩, hb8⟩; (first | have HP8 := Lib.hid (HP7.out.step hb8) | have HP8 := Lib.hid (HP7.out.drew.step hb8) | have HP8 := Lib.hid ((HP7.out.alloc _).step hb8) | have HP8 := Lib.hid ((HP7.out.alloc _).drew.step hb8)); have hcz := bxcell hb8; have hfz := bxfrozen hb8; simp only [srcP_b] at hcz hfz; have hsz := hb8.size; (first | simp only [World.size_alloc] at hsz | skip); have hg11 : g1 < w8.heap.size := (by first | omega | (simp at hsz; omega) | (have hsq : w7.heap.size ≤ w8.heap.size := hsz; omega)); obtain ⟨fe0, fe1, fe2, fe3, fe4, fe5, ff⟩ := HP8.out.at6; obtain ⟨R, hRr⟩ := Int.eq_ofNat_of_zero_le hr8a; subst hRr; have hR2 : R < 2 := (by omega); have h2 := two_at hR2; have h3 := two_atL hR2; (first | have hcp := blk2R ((hb8.block _ (by simp) (by simp; omega)).trans (heap_alloc_new _ _)) hR2 | skip); have hpk := pick2_or R (p1) (-p1))
    all_goals
      go_upto_region 12 with fail
      refine gen_world (P := fun W' => Code.wp _ _ _ _ W') (Q := fun W' => PSB (srcP 124 b A n c bs B) w w.heap.size g1 (.cells #[.int .i64 0, .int .i64 0, .int .i64 0, .int .i64 0, .int .i64 0, .int .i64 0] 53 (0, 0)) 53 W') ?_ ?_
      · first | exact ⟨p1, 1 + r2, r3, pick2 R (p1) (-p1), r4, 150 + r5, by omega, HP8.out.set 3 _⟩ | exact ⟨p1, 1 + r2, r3, pick2 R (p1) (-p1), r4, 150 + r5, by omega, (HP8.out.alloc _).set 3 _⟩ | exact ⟨p1, 1 + r2, r3, pick2 R (p1) (-p1), r4, 150 + r5, by omega, (HP8.out.set 3 _).alloc _⟩
      · intro wz HSz
        go_upto_region 12 with fail
        obtain ⟨x0, x1, x2, x3, x4, x5, hbd, hqz⟩ := HSz
        have HPz := Lib.hid hqz
        clear hqz
        obtain ⟨d0, d1, d2, d3, d4, d5, -⟩ := blk6q (show wz.heap[g1]? = some (.cells #[.int .i64 x0, .int .i64 x1, .int .i64 x2, .int .i64 x3, .int .i64 x4, .int .i64 x5] 53 (0, 0)) from HPz.out.k1)
        obtain ⟨z0, z1, z2, z3, z4, z5, zf⟩ := blk6q HPz.out.k0
        go_wp2_with fail
        obtain ⟨s0, s1, s2, s3, s4, s5, -⟩ := blk6q (res6q HPz.out.k0 (.int .i64 x0) (.int .i64 x1) (.int .i64 x2) (.int .i64 x3) (.int .i64 x4) (.int .i64 x5))
        (try simp only [Exit.inBlock, Exit.then]); refine bodyPost_ret (by simp [results, Try.results62, go_sem, s0, s1, s2, s3, s4, s5]; try rfl) rfl ?_
        exact ⟨_, rfl, ⟨x0, x1, x2, x3, x4, x5, rfl, hbd⟩, (bxset (k := 5) (u := .int .i64 x5) (bxset (k := 4) (u := .int .i64 x4) (bxset (k := 3) (u := .int .i64 x3) (bxset (k := 2) (u := .int .i64 x2) (bxset (k := 1) (u := .int .i64 x1) (bxset (k := 0) (u := .int .i64 x0) HPz.out.bx hbw (Nat.le_refl _)) hbw (Nat.le_refl _)) hbw (Nat.le_refl _)) hbw (Nat.le_refl _)) hbw (Nat.le_refl _)) hbw (Nat.le_refl _))⟩

  · go_wp2_with fail
    obtain ⟨fd0, fd1, fd2, fd3, fd4, fd5, fb⟩ := HP7.out.at6
    have vneg : IntKind.i64.wrap (-p1) = -p1 := by rw [IntKind.wrap_i64]; omega
    have hgw : g1 < w7.heap.size := HP7.out.sz.2.2.2
    have hbg : b < g1 := by have := HP7.out.sz; simp only [srcP_b] at this; omega
    have hwb : b < w7.heap.size := by omega
    have hwb1 : b < w7.heap.size + 1 := by omega
    go_region_with (go_at_call 79; with_reducible refine (draw_any b A n c bs B (2) _ ?_ (by omega)).mono ?_; (focus (first | exact HP7.out.inv | exact HP7.out.drew.inv | exact (HP7.out.alloc _).drew.inv | exact (HP7.out.alloc _).inv)); rintro e8 w8 ⟨u8, rfl, ⟨r8, rfl, hr8a, hr8b⟩, hb8⟩; (first | have HP8 := Lib.hid (HP7.out.step hb8) | have HP8 := Lib.hid (HP7.out.drew.step hb8) | have HP8 := Lib.hid ((HP7.out.alloc _).step hb8) | have HP8 := Lib.hid ((HP7.out.alloc _).drew.step hb8)); have hcz := bxcell hb8; have hfz := bxfrozen hb8; simp only [srcP_b] at hcz hfz; have hsz := hb8.size; (first | simp only [World.size_alloc] at hsz | skip); have hg11 : g1 < w8.heap.size := (by first | omega | (simp at hsz; omega) | (have hsq : w7.heap.size ≤ w8.heap.size := hsz; omega)); obtain ⟨fe0, fe1, fe2, fe3, fe4, fe5, ff⟩ := HP8.out.at6; obtain ⟨R, hRr⟩ := Int.eq_ofNat_of_zero_le hr8a; subst hRr; have hR2 : R < 2 := (by omega); have h2 := two_at hR2; have h3 := two_atL hR2; (first | have hcp := blk2R ((hb8.block _ (by simp) (by simp; omega)).trans (heap_alloc_new _ _)) hR2 | skip); have hpk := pick2_or R (r4) (256))
    all_goals
      go_upto_region 12 with fail
      refine gen_world (P := fun W' => Code.wp _ _ _ _ W') (Q := fun W' => PSB (srcP 124 b A n c bs B) w w.heap.size g1 (.cells #[.int .i64 0, .int .i64 0, .int .i64 0, .int .i64 0, .int .i64 0, .int .i64 0] 53 (0, 0)) 53 W') ?_ ?_
      · first | exact ⟨p1, 1 + r2, r3, B3, r4, pick2 R (r4) (256), by omega, HP8.out.set 5 _⟩ | exact ⟨p1, 1 + r2, r3, B3, r4, pick2 R (r4) (256), by omega, (HP8.out.alloc _).set 5 _⟩ | exact ⟨p1, 1 + r2, r3, B3, r4, pick2 R (r4) (256), by omega, (HP8.out.set 5 _).alloc _⟩
      · intro wz HSz
        go_upto_region 12 with fail
        obtain ⟨x0, x1, x2, x3, x4, x5, hbd, hqz⟩ := HSz
        have HPz := Lib.hid hqz
        clear hqz
        obtain ⟨d0, d1, d2, d3, d4, d5, -⟩ := blk6q (show wz.heap[g1]? = some (.cells #[.int .i64 x0, .int .i64 x1, .int .i64 x2, .int .i64 x3, .int .i64 x4, .int .i64 x5] 53 (0, 0)) from HPz.out.k1)
        obtain ⟨z0, z1, z2, z3, z4, z5, zf⟩ := blk6q HPz.out.k0
        go_wp2_with fail
        obtain ⟨s0, s1, s2, s3, s4, s5, -⟩ := blk6q (res6q HPz.out.k0 (.int .i64 x0) (.int .i64 x1) (.int .i64 x2) (.int .i64 x3) (.int .i64 x4) (.int .i64 x5))
        (try simp only [Exit.inBlock, Exit.then]); refine bodyPost_ret (by simp [results, Try.results62, go_sem, s0, s1, s2, s3, s4, s5]; try rfl) rfl ?_
        exact ⟨_, rfl, ⟨x0, x1, x2, x3, x4, x5, rfl, hbd⟩, (bxset (k := 5) (u := .int .i64 x5) (bxset (k := 4) (u := .int .i64 x4) (bxset (k := 3) (u := .int .i64 x3) (bxset (k := 2) (u := .int .i64 x2) (bxset (k := 1) (u := .int .i64 x1) (bxset (k := 0) (u := .int .i64 x0) HPz.out.bx hbw (Nat.le_refl _)) hbw (Nat.le_refl _)) hbw (Nat.le_refl _)) hbw (Nat.le_refl _)) hbw (Nat.le_refl _)) hbw (Nat.le_refl _))⟩

  · have hgw : g1 < w7.heap.size := HP7.out.sz.2.2.2
    have hbw7 : b < w7.heap.size + 1 := by have := HP7.out.sz; simp only [srcP_b] at this; omega
    go_wp2_with fail
    go_at_call 79; with_reducible refine (draw_any b A n c bs B (3) _ ?_ (by omega)).mono ?_; (focus (first | exact HP7.out.inv | exact HP7.out.drew.inv | exact (HP7.out.alloc _).drew.inv | exact (HP7.out.alloc _).inv)); rintro e8 w8 ⟨u8, rfl, ⟨r8, rfl, hr8a, hr8b⟩, hb8⟩; (first | have HP8 := Lib.hid (HP7.out.step hb8) | have HP8 := Lib.hid (HP7.out.drew.step hb8) | have HP8 := Lib.hid ((HP7.out.alloc _).step hb8) | have HP8 := Lib.hid ((HP7.out.alloc _).drew.step hb8))
    have hp8 : w8.heap[w7.heap.size]? = some (.cells #[.int .i64 (-1), .int .i64 (16), .int .i64 (17)] 2 (0, 0)) := (hb8.block w7.heap.size (by simp) (by simp; omega)).trans (heap_alloc_new _ _)
    obtain ⟨v, R, hv, hR, hck, hvl⟩ : ∃ (v : Int) (R : Nat), r8 = R ∧ R < 3 ∧ w8.cell? ⟨w7.heap.size, R, none⟩ = some (.int .i64 v) ∧ (v = -1 ∨ v = 16 ∨ v = 17) := by
      rcases (show r8 = 0 ∨ r8 = 1 ∨ r8 = 2 by omega) with rfl | rfl | rfl
      · exact ⟨-1, 0, rfl, by decide, (blk_cell hp8 0).trans rfl, .inl rfl⟩
      · exact ⟨16, 1, rfl, by decide, (blk_cell hp8 1).trans rfl, .inr (.inl rfl)⟩
      · exact ⟨17, 2, rfl, by decide, (blk_cell hp8 2).trans rfl, .inr (.inr (rfl))⟩
    subst hv
    clear hp8
    obtain ⟨fe0, fe1, fe2, fe3, fe4, fe5, ff⟩ := HP8.out.at6
    go_upto_region 12 with fail
    refine gen_world (P := fun W' => Code.wp _ _ _ _ W') (Q := fun W' => PSB (srcP 124 b A n c bs B) w w.heap.size g1 (.cells #[.int .i64 0, .int .i64 0, .int .i64 0, .int .i64 0, .int .i64 0, .int .i64 0] 53 (0, 0)) 53 W') ?_ ?_
    · first | exact ⟨p1, 1 + r2, v, B3, r4, 150 + r5, by omega, HP8.out.set 2 _⟩
    · intro wz HSz
      go_upto_region 12 with fail
      obtain ⟨x0, x1, x2, x3, x4, x5, hbd, hqz⟩ := HSz
      have HPz := Lib.hid hqz
      clear hqz
      obtain ⟨d0, d1, d2, d3, d4, d5, -⟩ := blk6q (show wz.heap[g1]? = some (.cells #[.int .i64 x0, .int .i64 x1, .int .i64 x2, .int .i64 x3, .int .i64 x4, .int .i64 x5] 53 (0, 0)) from HPz.out.k1)
      obtain ⟨z0, z1, z2, z3, z4, z5, zf⟩ := blk6q HPz.out.k0
      go_wp2_with fail
      obtain ⟨s0, s1, s2, s3, s4, s5, -⟩ := blk6q (res6q HPz.out.k0 (.int .i64 x0) (.int .i64 x1) (.int .i64 x2) (.int .i64 x3) (.int .i64 x4) (.int .i64 x5))
      (try simp only [Exit.inBlock, Exit.then]); refine bodyPost_ret (by simp [results, Try.results62, go_sem, s0, s1, s2, s3, s4, s5]; try rfl) rfl ?_
      exact ⟨_, rfl, ⟨x0, x1, x2, x3, x4, x5, rfl, hbd⟩, (bxset (k := 5) (u := .int .i64 x5) (bxset (k := 4) (u := .int .i64 x4) (bxset (k := 3) (u := .int .i64 x3) (bxset (k := 2) (u := .int .i64 x2) (bxset (k := 1) (u := .int .i64 x1) (bxset (k := 0) (u := .int .i64 x0) HPz.out.bx hbw (Nat.le_refl _)) hbw (Nat.le_refl _)) hbw (Nat.le_refl _)) hbw (Nat.le_refl _)) hbw (Nat.le_refl _)) hbw (Nat.le_refl _))⟩

  · have HSz : PSB (srcP 124 b A n c bs B) w w.heap.size g1 (.cells #[.int .i64 0, .int .i64 0, .int .i64 0, .int .i64 0, .int .i64 0, .int .i64 0] 53 (0, 0)) 53 w7 := ⟨p1, 1 + r2, r3, B3, r4, 150 + r5, by omega, HP7.out⟩
    go_upto_region 12 with fail
    obtain ⟨x0, x1, x2, x3, x4, x5, hbd, hqz⟩ := HSz
    have HPz := Lib.hid hqz
    clear hqz
    obtain ⟨d0, d1, d2, d3, d4, d5, -⟩ := blk6q (show w7.heap[g1]? = some (.cells #[.int .i64 x0, .int .i64 x1, .int .i64 x2, .int .i64 x3, .int .i64 x4, .int .i64 x5] 53 (0, 0)) from HPz.out.k1)
    obtain ⟨z0, z1, z2, z3, z4, z5, zf⟩ := blk6q HPz.out.k0
    go_wp2_with fail
    obtain ⟨s0, s1, s2, s3, s4, s5, -⟩ := blk6q (res6q HPz.out.k0 (.int .i64 x0) (.int .i64 x1) (.int .i64 x2) (.int .i64 x3) (.int .i64 x4) (.int .i64 x5))
    (try simp only [Exit.inBlock, Exit.then]); refine bodyPost_ret (by simp [results, Try.results62, go_sem, s0, s1, s2, s3, s4, s5]; try rfl) rfl ?_
    exact ⟨_, rfl, ⟨x0, x1, x2, x3, x4, x5, rfl, hbd⟩, (bxset (k := 5) (u := .int .i64 x5) (bxset (k := 4) (u := .int .i64 x4) (bxset (k := 3) (u := .int .i64 x3) (bxset (k := 2) (u := .int .i64 x2) (bxset (k := 1) (u := .int .i64 x1) (bxset (k := 0) (u := .int .i64 x0) HPz.out.bx hbw (Nat.le_refl _)) hbw (Nat.le_refl _)) hbw (Nat.le_refl _)) hbw (Nat.le_refl _)) hbw (Nat.le_refl _)) hbw (Nat.le_refl _))⟩

end Go.Proofs.Ytflpllmbpfdnjaa
namespace Go.Proofs.Ytflpllmbpfdnjaa
set_option linter.unusedSimpArgs false
open Go.RowKit
theorem blk3t {w : World} {b t : Nat} {x y z : Value} (h : w.heap[b]? = some (.cells #[x, y, z] t (0, 0))) : w.cell? ⟨b, 0, none⟩ = some x ∧ w.cell? ⟨b, 1, none⟩ = some y ∧ w.cell? ⟨b, 2, none⟩ = some z := ⟨(blk3 h).1, (blk3 h).2.1, (blk3 h).2.2.1⟩
set_option maxRecDepth 20000 in
set_option maxHeartbeats 8000000 in
theorem DrawPrintGrid_any (A : Option Addr) (n c : Nat) (bs : List Int) (B : Nat) (w0 : World) (hb : RB w0 B A n bs) (hB0 : B ≤ w0.heap.size) (hn : n ≤ 4096) :
    Calls Try.prog 28 #[.slice A n c] w0 fun e w' =>
      ∃ u, e = .returned u ∧ (∃ (r c : Int) (v : Value) (xs : List Int) (x0 x1 x2 x3 x4 x5 : Int), u = .tuple #[.agg #[.int .i64 r, .int .i64 c, v], .agg #[.int .i64 x0, .int .i64 x1, .int .i64 x2, .int .i64 x3, .int .i64 x4, .int .i64 x5]] ∧
        (1 ≤ xs.length ∧ xs.length ≤ 1700 ∧ Own w' w0.heap.size v xs ∧ -2 ≤ r ∧ r ≤ 40001 ∧ -2 ≤ c ∧ c ≤ 40001) ∧ ((0 ≤ x0 ∧ x0 ≤ 13) ∧ (0 ≤ x1 ∧ x1 ≤ 13) ∧ (-1 ≤ x2 ∧ x2 ≤ 17) ∧ (-20 ≤ x3 ∧ x3 ≤ 20) ∧ (0 ≤ x4 ∧ x4 ≤ 60) ∧ 0 ≤ x5 ∧ x5 ≤ 256)) ∧ Below w0.heap.size w0 w' := by
  have HRB := Lib.hid hb
  clear hb
  go_enter Try.func28, Try.ntmps28
  go_wp2_with fail
  (go_at_call 60; go_call (l01From_any A n c bs _ B (HRB.out.below (((Below.refl B w0).alloc hB0 _).alloc (by simp; omega) _)) (by simp; omega) hn) as e w ⟨rfl, hs, hb0⟩)
  have hI : (srcP 124 (w0.heap.size + 1 + 1) A n c bs B).I w := ⟨by simpa using hs, (HRB.out.below (((Below.refl B w0).alloc hB0 _).alloc (by simp; omega) _)).below (hb0.mono (by simp; omega)), by omega, hn⟩
  have hB0w : Below w0.heap.size w0 w := (((Below.refl _ _).alloc (Nat.le_refl _) _).alloc (by simp) _).trans (hb0.mono (by simp; omega))
  have hh0 := blk_below (blk_alloc (u := .cells #[.int .i64 0, .int .i64 0, .int .i64 0, .int .i64 0, .int .i64 0, .int .i64 0] 53) (heap_alloc_new w0 (.cells #[.int .i64 0, .int .i64 0, .slice none 0 0] 41)) (by simp)) hb0 (by simp; omega)
  have hk0 := blk_below (heap_alloc_at (w := w0.alloc (.cells #[.int .i64 0, .int .i64 0, .slice none 0 0] 41)) (b := w0.heap.size + 1) (o := .cells #[.int .i64 0, .int .i64 0, .int .i64 0, .int .i64 0, .int .i64 0, .int .i64 0] 53) (by simp)) hb0 (by simp)
  simp only [World.size_alloc]
  obtain ⟨b, hbd⟩ : ∃ b, w0.heap.size + 1 + 1 = b := ⟨_, rfl⟩
  rw [hbd] at hI ⊢
  have hbw := srcP_lt hI
  have h0b : w0.heap.size + 1 < b := by omega
  have h0w : w0.heap.size + 1 < w.heap.size := by omega
  have HI := Lib.hid hI
  have HH := Lib.hid hh0
  have HK := Lib.hid hk0
  have H0 := Lib.hid hB0w
  clear hI hh0 hk0 hs hb0 hB0w hbd
  go_wp2_with fail
  (go_at_call 61; with_reducible refine (l16Draw_any b A n c bs B _ (bxinv (B := w.heap.size) ?_ HI)).mono ?_; (focus (repeat (first | (with_reducible assumption) | (with_reducible exact BX.refl _ _ _) | (with_reducible refine BX.drewN ?_ _) | (with_reducible refine BX.drew ?_) | ((with_reducible refine BX.alloc ?_ ?_ _); rotate_left; (focus (first | (simp; done) | omega | (simp; omega) | (simp [srcP]; done) | (simp [srcP]; omega)))) | ((with_reducible refine BX.setCell ?_ ?_ ?_ _); rotate_left; (focus (first | (simp; done) | omega | (simp; omega) | (simp [srcP]; done) | (simp [srcP]; omega))); (focus (first | (simp; done) | omega | (simp; omega) | (simp [srcP]; done) | (simp [srcP]; omega))))))); rintro e1 w1 ⟨u1, rfl, hdg, hb1⟩; have hB1 : BX (srcP 124 b A n c bs B) w.heap.size w w1 := BX.then (by (repeat (first | (with_reducible assumption) | (with_reducible exact BX.refl _ _ _) | (with_reducible refine BX.drewN ?_ _) | (with_reducible refine BX.drew ?_) | ((with_reducible refine BX.alloc ?_ ?_ _); rotate_left; (focus (first | (simp; done) | omega | (simp; omega) | (simp [srcP]; done) | (simp [srcP]; omega)))) | ((with_reducible refine BX.setCell ?_ ?_ ?_ _); rotate_left; (focus (first | (simp; done) | omega | (simp; omega) | (simp [srcP]; done) | (simp [srcP]; omega))); (focus (first | (simp; done) | omega | (simp; omega) | (simp [srcP]; done) | (simp [srcP]; omega))))))) (by first | omega | (simp; done) | (simp; omega)) hb1; have hc1 := bxcell hb1; have hf1 := bxfrozen hb1; simp only [srcP_b] at hc1 hf1)
  (have hh1 := Lib.hid (show w1.heap[w0.heap.size]? = some (.cells #[.int .i64 0, .int .i64 0, .slice none 0 0] 41 (0, 0)) from (hb1.block (w0.heap.size) (by first | omega | (simp; done) | (simp; omega) | (simp [srcP]; omega)) (by first | omega | (simp; done) | (simp; omega) | (simp [srcP]; omega))).trans (by repeat (first | (with_reducible exact HH.out) | (with_reducible exact heap_alloc_new _ _) | (rw [heap_drew1]) | (rw [heap_drewN1]) | (rw [Below.heap_setCell _ _ _ _ (by first | omega | (simp; done) | (simp; omega) | (simp [srcP]; omega))]) | (rw [Below.heap_alloc _ _ _ (by first | omega | (simp; done) | (simp; omega) | (simp [srcP]; omega))])))))
  (have hg1 := Lib.hid (show w1.heap[w0.heap.size + 1]? = some (.cells #[.int .i64 0, .int .i64 0, .int .i64 0, .int .i64 0, .int .i64 0, .int .i64 0] 53 (0, 0)) from (hb1.block (w0.heap.size + 1) (by first | omega | (simp; done) | (simp; omega) | (simp [srcP]; omega)) (by first | omega | (simp; done) | (simp; omega) | (simp [srcP]; omega))).trans (by repeat (first | (with_reducible exact HK.out) | (with_reducible exact heap_alloc_new _ _) | (rw [heap_drew1]) | (rw [heap_drewN1]) | (rw [Below.heap_setCell _ _ _ _ (by first | omega | (simp; done) | (simp; omega) | (simp [srcP]; omega))]) | (rw [Below.heap_alloc _ _ _ (by first | omega | (simp; done) | (simp; omega) | (simp [srcP]; omega))])))))
  obtain ⟨r, cc, v, xs, rfl, gl1, gl2, go1, gb1, gb2, gb3, gb4⟩ := hdg
  obtain ⟨GA, gcp, rfl, -⟩ := go1.shape
  have hs1 := hb1.size
  have hbw1 : b < w1.heap.size := by omega
  have hbw1' : b < w1.heap.size + 1 := by omega
  obtain ⟨L, hL⟩ : ∃ L, xs.length = L := ⟨_, rfl⟩
  rw [hL] at go1 gl1 gl2 ⊢
  have HL := Lib.hid hL
  have HO1 := Lib.hid go1
  have HG1 := Lib.hid (heap_alloc_new w1 (.cells #[.int .i64 r, .int .i64 cc, .slice GA L gcp] 41))
  obtain ⟨g0, g1, g2, gf⟩ := blk3 HG1.out
  clear hc1 hf1 go1 hL
  go_wp2_with fail
  have hne0 : w1.heap.size ≠ w0.heap.size := by omega
  have hne1 : w1.heap.size ≠ w0.heap.size + 1 := by omega
  go_region_held3 (fun w' => w'.cell? ⟨w1.heap.size, 0, none⟩ = some (.int .i64 r) ∧ w'.cell? ⟨w1.heap.size, 1, none⟩ = some (.int .i64 cc) ∧ w'.cell? ⟨w1.heap.size, 2, none⟩ = some (.slice GA L gcp))
    (first | with_reducible exact ⟨g0, g1, g2⟩ | with_reducible exact ⟨k0, k1, k2⟩ | with_reducible exact blk3t (blk_other (blk_other (blk_other hm2.out hne0) hne0) hne0) | with_reducible exact blk3t (blk_other (blk_other (blk_other (blk_other (blk_other (blk_other (blk_other (blk_other (blk_other hm2.out hne0) hne0) hne0) hne1) hne1) hne1) hne1) hne1) hne1) | go_keep)
    (((go_at_call 62; with_reducible refine (l21Draw_any b A n c bs B _ (bxinv (B := w.heap.size) ?_ HI)).mono ?_; (focus (repeat (first | (with_reducible assumption) | (with_reducible exact BX.refl _ _ _) | (with_reducible refine BX.drewN ?_ _) | (with_reducible refine BX.drew ?_) | ((with_reducible refine BX.alloc ?_ ?_ _); rotate_left; (focus (first | (simp; done) | omega | (simp; omega) | (simp [srcP]; done) | (simp [srcP]; omega)))) | ((with_reducible refine BX.setCell ?_ ?_ ?_ _); rotate_left; (focus (first | (simp; done) | omega | (simp; omega) | (simp [srcP]; done) | (simp [srcP]; omega))); (focus (first | (simp; done) | omega | (simp; omega) | (simp [srcP]; done) | (simp [srcP]; omega))))))); rintro e2 w2 ⟨u2, rfl, ⟨x0, x1, x2, x3, x4, x5, rfl, hbd⟩, hb2⟩; have hB2 : BX (srcP 124 b A n c bs B) w.heap.size w w2 := BX.then (by (repeat (first | (with_reducible assumption) | (with_reducible exact BX.refl _ _ _) | (with_reducible refine BX.drewN ?_ _) | (with_reducible refine BX.drew ?_) | ((with_reducible refine BX.alloc ?_ ?_ _); rotate_left; (focus (first | (simp; done) | omega | (simp; omega) | (simp [srcP]; done) | (simp [srcP]; omega)))) | ((with_reducible refine BX.setCell ?_ ?_ ?_ _); rotate_left; (focus (first | (simp; done) | omega | (simp; omega) | (simp [srcP]; done) | (simp [srcP]; omega))); (focus (first | (simp; done) | omega | (simp; omega) | (simp [srcP]; done) | (simp [srcP]; omega))))))) (by first | omega | (simp; done) | (simp; omega)) hb2; have hc2 := bxcell hb2; have hf2 := bxfrozen hb2; simp only [srcP_b] at hc2 hf2)
      (have hh2 := Lib.hid (show w2.heap[w0.heap.size]? = some (.cells #[.int .i64 0, .int .i64 0, .slice none 0 0] 41 (0, 0)) from (hb2.block (w0.heap.size) (by first | omega | (simp; done) | (simp; omega) | (simp [srcP]; omega)) (by first | omega | (simp; done) | (simp; omega) | (simp [srcP]; omega))).trans (by repeat (first | (with_reducible exact hh1.out) | (with_reducible exact heap_alloc_new _ _) | (rw [heap_drew1]) | (rw [heap_drewN1]) | (rw [Below.heap_setCell _ _ _ _ (by first | omega | (simp; done) | (simp; omega) | (simp [srcP]; omega))]) | (rw [Below.heap_alloc _ _ _ (by first | omega | (simp; done) | (simp; omega) | (simp [srcP]; omega))])))))
      (have hg2 := Lib.hid (show w2.heap[w0.heap.size + 1]? = some (.cells #[.int .i64 0, .int .i64 0, .int .i64 0, .int .i64 0, .int .i64 0, .int .i64 0] 53 (0, 0)) from (hb2.block (w0.heap.size + 1) (by first | omega | (simp; done) | (simp; omega) | (simp [srcP]; omega)) (by first | omega | (simp; done) | (simp; omega) | (simp [srcP]; omega))).trans (by repeat (first | (with_reducible exact hg1.out) | (with_reducible exact heap_alloc_new _ _) | (rw [heap_drew1]) | (rw [heap_drewN1]) | (rw [Below.heap_setCell _ _ _ _ (by first | omega | (simp; done) | (simp; omega) | (simp [srcP]; omega))]) | (rw [Below.heap_alloc _ _ _ (by first | omega | (simp; done) | (simp; omega) | (simp [srcP]; omega))])))))
      (have hm2 := Lib.hid (show w2.heap[w1.heap.size]? = some (.cells #[.int .i64 r, .int .i64 cc, .slice GA L gcp] 41 (0, 0)) from (hb2.block (w1.heap.size) (by first | omega | (simp; done) | (simp; omega) | (simp [srcP]; omega)) (by first | omega | (simp; done) | (simp; omega) | (simp [srcP]; omega))).trans (by repeat (first | (with_reducible exact HG1.out) | (with_reducible exact heap_alloc_new _ _) | (rw [heap_drew1]) | (rw [heap_drewN1]) | (rw [Below.heap_setCell _ _ _ _ (by first | omega | (simp; done) | (simp; omega) | (simp [srcP]; omega))]) | (rw [Below.heap_alloc _ _ _ (by first | omega | (simp; done) | (simp; omega) | (simp [srcP]; omega))])))))
      have HB2 := Lib.hid (H0.out.trans ((hB2.mono (Nat.le_of_lt (Nat.lt_of_succ_lt h0w))).below (show w0.heap.size ≤ b by omega)))
      (first | have HO2 := Lib.hid (Own.bx (w := (w1.alloc (.cells #[.int .i64 r, .int .i64 cc, .slice GA L gcp] 41)).drew) (HO1.out.keep (by go_grown)) hb2 (show b < w.heap.size from hbw)) | have HO2 := Lib.hid (Own.bx (w := w1.alloc (.cells #[.int .i64 r, .int .i64 cc, .slice GA L gcp] 41)) (HO1.out.keep (by go_grown)) hb2 (show b < w.heap.size from hbw)))
      obtain ⟨k0, k1, k2, kf⟩ := blk3 hm2.out
      obtain ⟨z0, z1, z2, zf⟩ := blk3 hh2.out
      obtain ⟨y0, y1, y2, y3, y4, y5, yf⟩ := blk6q hg2.out
      clear hc2 hf2))
  have hnw : w0.heap.size ≠ w0.heap.size + 1 := by omega
  have hnv : w0.heap.size + 1 ≠ w0.heap.size := by omega
  have hl0 : w0.heap.size < w.heap.size := by omega
  obtain ⟨s0, s1, s2, -⟩ := blk3 (blk_other (k := 5) (u := .int .i64 x5) (blk_other (k := 4) (u := .int .i64 x4) (blk_other (k := 3) (u := .int .i64 x3) (blk_other (k := 2) (u := .int .i64 x2) (blk_other (k := 1) (u := .int .i64 x1) (blk_other (k := 0) (u := .int .i64 x0) (blk3_2 (u := .slice GA L gcp) (blk3_1 (u := .int .i64 cc) (blk3_0 (u := .int .i64 r) hh2.out))) hnw) hnw) hnw) hnw) hnw) hnw)
  obtain ⟨t0, t1, t2, t3, t4, t5, -⟩ := blk6q (res6q (blk_other (k := 2) (u := .slice GA L gcp) (blk_other (k := 1) (u := .int .i64 cc) (blk_other (k := 0) (u := .int .i64 r) hg2.out hnv) hnv) hnv) (.int .i64 x0) (.int .i64 x1) (.int .i64 x2) (.int .i64 x3) (.int .i64 x4) (.int .i64 x5))
  go_wp2_with fail
  (try simp only [Exit.inBlock, Exit.then]); refine bodyPost_ret (by simp [results, Try.results28, go_sem, s0, s1, s2, t0, t1, t2, t3, t4, t5]; try rfl) rfl ?_
  exact ⟨_, rfl, ⟨_, _, _, xs, _, _, _, _, _, _, rfl, ⟨by rw [HL.out]; exact gl1, by rw [HL.out]; exact gl2, Own.more (Own.setLt (Own.setLt (Own.setLt (Own.setLt (Own.setLt (Own.setLt (Own.setLt (Own.setLt (Own.setLt HO2.out (p := ⟨w0.heap.size, 0, none⟩) hl0 (.int .i64 r)) (p := ⟨w0.heap.size, 1, none⟩) hl0 (.int .i64 cc)) (p := ⟨w0.heap.size, 2, none⟩) hl0 (.slice GA L gcp)) (p := ⟨w0.heap.size + 1, 0, none⟩) h0w (.int .i64 x0)) (p := ⟨w0.heap.size + 1, 1, none⟩) h0w (.int .i64 x1)) (p := ⟨w0.heap.size + 1, 2, none⟩) h0w (.int .i64 x2)) (p := ⟨w0.heap.size + 1, 3, none⟩) h0w (.int .i64 x3)) (p := ⟨w0.heap.size + 1, 4, none⟩) h0w (.int .i64 x4)) (p := ⟨w0.heap.size + 1, 5, none⟩) h0w (.int .i64 x5)) (Nat.le_of_lt hl0), gb1, gb2, gb3, gb4⟩, hbd⟩, (Below.setCell (p := ⟨w0.heap.size + 1, 5, none⟩) (Below.setCell (p := ⟨w0.heap.size + 1, 4, none⟩) (Below.setCell (p := ⟨w0.heap.size + 1, 3, none⟩) (Below.setCell (p := ⟨w0.heap.size + 1, 2, none⟩) (Below.setCell (p := ⟨w0.heap.size + 1, 1, none⟩) (Below.setCell (p := ⟨w0.heap.size + 1, 0, none⟩) (Below.setCell (p := ⟨w0.heap.size, 2, none⟩) (Below.setCell (p := ⟨w0.heap.size, 1, none⟩) (Below.setCell (p := ⟨w0.heap.size, 0, none⟩) HB2.out (Nat.le_refl _) (.int .i64 r)) (Nat.le_refl _) (.int .i64 cc)) (Nat.le_refl _) (.slice GA L gcp)) (Nat.le_succ _) (.int .i64 x0)) (Nat.le_succ _) (.int .i64 x1)) (Nat.le_succ _) (.int .i64 x2)) (Nat.le_succ _) (.int .i64 x3)) (Nat.le_succ _) (.int .i64 x4)) (Nat.le_succ _) (.int .i64 x5))⟩
end Go.Proofs.Ytflpllmbpfdnjaa
