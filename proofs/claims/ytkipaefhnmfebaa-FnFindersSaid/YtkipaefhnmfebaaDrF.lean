/-
  What the law of the finders draws: square grids (as XDrS, over fewer texts).
-/
import Derived.Test.YtkipaefhnmfebaaDrB
import Derived.Test.YtkipaefhnmfebaaTk
import Derived.Test.YtkipaefhnmfebaaC14K
import Derived.Test.YtkipaefhnmfebaaC14I
import Derived.Test.YtkipaefhnmfebaaC14O
import Derived.Test.YtkipaefhnmfebaaRegion
import Derived.Deep.RegionHeld3
namespace Go.Proofs.Ytkipaefhnmfebaa
set_option linter.unusedSimpArgs false
open Go.RowKit
def DG (w : World) (B : Nat) (u : Value) : Prop := ∃ (r c : Int) (v : Value) (xs : List Int), u = .agg #[.int .i64 r, .int .i64 c, v] ∧ 1 ≤ xs.length ∧ xs.length ≤ 1700 ∧ Own w B v xs
theorem pickN {r : Int} (h0 : 0 ≤ r) (h1 : r < 4) : ∃ (R N : Nat), r = R ∧ R < 4 ∧ ([17, 21, 25, 17].map (Value.int .i64)).toArray[R]? = some (.int .i64 (N : Int)) ∧ 17 ≤ N ∧ N ≤ 25 ∧ N % 4 = 1 := by
  have : r = 0 ∨ r = 1 ∨ r = 2 ∨ r = 3 := by omega
  rcases this with rfl | rfl | rfl | rfl
  · exact ⟨0, 17, rfl, by omega, rfl, by omega, by omega, by omega⟩
  · exact ⟨1, 21, rfl, by omega, rfl, by omega, by omega, by omega⟩
  · exact ⟨2, 25, rfl, by omega, rfl, by omega, by omega, by omega⟩
  · exact ⟨3, 17, rfl, by omega, rfl, by omega, by omega, by omega⟩
set_option maxRecDepth 20000 in
set_option maxHeartbeats 8000000 in
theorem l14DrawSquare_any (b : Nat) (A : Option Addr) (n c : Nat) (bs : List Int) (B : Nat) (w : World) (hI : (srcP 97 b A n c bs B).I w) :
    Calls Try.prog 65 #[.pointer (some ⟨b, 0, none⟩)] w fun e w' =>
      ∃ u, e = .returned u ∧ DG w' w.heap.size u ∧ BX (srcP 97 b A n c bs B) w.heap.size w w' := by
  have hbw := srcP_lt hI
  have hbw0 : b < w.heap.size + 1 := by omega
  have hbw1 : b < w.heap.size + 1 + 1 := by omega
  have HI := Lib.hid hI
  clear hI
  go_enter Try.func65, Try.ntmps65
  go_wp2_with fail
  (go_at_call 62; with_reducible refine (draw_any b A n c bs B (4) _ (bxinv (B := w.heap.size) ?_ HI) (by omega)).mono ?_; (focus (repeat (first | (with_reducible assumption) | (with_reducible exact BX.refl _ _ _) | (with_reducible refine BX.drewN ?_ _) | (with_reducible refine BX.drew ?_) | ((with_reducible refine BX.alloc ?_ ?_ _); rotate_left; (focus (first | (simp; done) | omega | (simp; omega) | (simp [srcP]; done) | (simp [srcP]; omega)))) | ((with_reducible refine BX.setCell ?_ ?_ ?_ _); rotate_left; (focus (first | (simp; done) | omega | (simp; omega) | (simp [srcP]; done) | (simp [srcP]; omega))); (focus (first | (simp; done) | omega | (simp; omega) | (simp [srcP]; done) | (simp [srcP]; omega))))))); rintro e1 w1 ⟨u1, rfl, ⟨r1, rfl, hr1a, hr1b⟩, hb1⟩; have hB1 : BX (srcP 97 b A n c bs B) w.heap.size w w1 := BX.then (by (repeat (first | (with_reducible assumption) | (with_reducible exact BX.refl _ _ _) | (with_reducible refine BX.drewN ?_ _) | (with_reducible refine BX.drew ?_) | ((with_reducible refine BX.alloc ?_ ?_ _); rotate_left; (focus (first | (simp; done) | omega | (simp; omega) | (simp [srcP]; done) | (simp [srcP]; omega)))) | ((with_reducible refine BX.setCell ?_ ?_ ?_ _); rotate_left; (focus (first | (simp; done) | omega | (simp; omega) | (simp [srcP]; done) | (simp [srcP]; omega))); (focus (first | (simp; done) | omega | (simp; omega) | (simp [srcP]; done) | (simp [srcP]; omega))))))) (by first | omega | (simp; done) | (simp; omega)) hb1; have hc1 := bxcell hb1; have hf1 := bxfrozen hb1; simp only [srcP_b] at hc1 hf1; have hz1a : w.heap.size < w1.heap.size := (by have := hb1.size; first | omega | (simp at this; omega)))
  (have hh1 := Lib.hid (show w1.heap[w.heap.size]? = some (.cells #[.int .i64 0, .int .i64 0, .slice none 0 0] 41 (0, 0)) from (hb1.block (w.heap.size) (by first | omega | (simp; done) | (simp; omega) | (simp [srcP]; omega)) (by first | omega | (simp; done) | (simp; omega) | (simp [srcP]; omega))).trans (by repeat (first | (with_reducible exact rfl) | (with_reducible exact heap_alloc_new _ _) | (rw [heap_drew1]) | (rw [heap_drewN1]) | (rw [Below.heap_setCell _ _ _ _ (by first | omega | (simp; done) | (simp; omega) | (simp [srcP]; omega))]) | (rw [Below.heap_alloc _ _ _ (by first | omega | (simp; done) | (simp; omega) | (simp [srcP]; omega))])))))
  have hs1 := hb1.size
  simp only [World.size_alloc] at hs1
  have hl1 : w1.heap[w.heap.size + 1]? = some (.cells ([17, 21, 25, 17].map (Value.int .i64)).toArray 2 (0, 0)) := (hb1.block (w.heap.size + 1) (by simp) (by simp; omega)).trans (heap_alloc_at (by simp))
  obtain ⟨R, N, rfl, hR, hv, hN1, hN2, hN3⟩ := pickN hr1a (by omega)
  have hck := pick_lit hl1 hv
  have hN : 17 ≤ N ∧ N ≤ 41 ∧ N % 4 = 1 := ⟨hN1, by omega, hN3⟩
  have hbx1 : b < w1.heap.size := by omega
  clear hl1 hv hc1 hf1
  obtain ⟨NN, hNN⟩ : ∃ NN, N * N = NN := ⟨_, rfl⟩
  have hNNb : NN ≤ 625 := by rw [← hNN]; exact Nat.mul_le_mul hN2 hN2
  have h9 : 9 * N ≤ NN := by rw [← hNN]; exact Nat.mul_le_mul_right N (by omega)
  have hNi : (N : Int) * N = (NN : Int) := by rw [← hNN]; simp
  have HNN := Lib.hid hNN
  have HGR := Lib.hid (fun w => l14Grid_any N w hN)
  have HFL := Lib.hid (show (fixL N).length = NN by rw [fixL_len, hNN])
  have HPT := Lib.hid (fun (V b o c : Nat) (w : World) (B : Nat) (hV : V < 32) (hr : RI w B (some ⟨b, o, none⟩) NN (fixL N)) (hB : B ≤ w.heap.size) => by
    have h := l14Put_any N V b o c (fixL N) w B hN hV (by rw [hNN]; exact hr) hB
    rw [hNN] at h
    exact h)
  have HPL := Lib.hid (fun V => show (put1 N fmtA (fmtB N) (stdW V) (fixL N) 15).length = NN by rw [put1_len, fixL_len, hNN])
  generalize fixL N = fx at HGR HFL HPT HPL
  clear hN hNN
  go_wp2_with fail
  (go_at_call 81; go_call (HGR.out _) as e2 w2 ⟨v2, rfl, ho2, hbb2⟩)
  have hB2 : BX (srcP 97 b A n c bs B) w.heap.size w w2 := BX.thenB hB1 (by omega) hbb2
  have hs2 := hbb2.size
  obtain ⟨g2, c2, rfl, hg2, hg2w, -, -⟩ := ho2.row (by rw [HFL.out]; omega)
  rw [HFL.out] at ho2 ⊢
  have HO2 := Lib.hid ho2
  have HZ2 := Lib.hid (blk_below hh1.out hbb2 (by omega))
  have hbx2 : b < w2.heap.size := by omega
  clear ho2 hbb2 hb1 hB1
  go_wp2_with fail
  (go_at_call 62; with_reducible refine (draw_any b A n c bs B (32) _ (bxinv (B := w.heap.size) ?_ HI) (by omega)).mono ?_; (focus (repeat (first | (with_reducible assumption) | (with_reducible exact BX.refl _ _ _) | (with_reducible refine BX.drewN ?_ _) | (with_reducible refine BX.drew ?_) | ((with_reducible refine BX.alloc ?_ ?_ _); rotate_left; (focus (first | (simp; done) | omega | (simp; omega) | (simp [srcP]; done) | (simp [srcP]; omega)))) | ((with_reducible refine BX.setCell ?_ ?_ ?_ _); rotate_left; (focus (first | (simp; done) | omega | (simp; omega) | (simp [srcP]; done) | (simp [srcP]; omega))); (focus (first | (simp; done) | omega | (simp; omega) | (simp [srcP]; done) | (simp [srcP]; omega))))))); rintro e3 w3 ⟨u3, rfl, ⟨r3, rfl, hr3a, hr3b⟩, hb3⟩; have hB3 : BX (srcP 97 b A n c bs B) w.heap.size w w3 := BX.then (by (repeat (first | (with_reducible assumption) | (with_reducible exact BX.refl _ _ _) | (with_reducible refine BX.drewN ?_ _) | (with_reducible refine BX.drew ?_) | ((with_reducible refine BX.alloc ?_ ?_ _); rotate_left; (focus (first | (simp; done) | omega | (simp; omega) | (simp [srcP]; done) | (simp [srcP]; omega)))) | ((with_reducible refine BX.setCell ?_ ?_ ?_ _); rotate_left; (focus (first | (simp; done) | omega | (simp; omega) | (simp [srcP]; done) | (simp [srcP]; omega))); (focus (first | (simp; done) | omega | (simp; omega) | (simp [srcP]; done) | (simp [srcP]; omega))))))) (by first | omega | (simp; done) | (simp; omega)) hb3; have hc3 := bxcell hb3; have hf3 := bxfrozen hb3; simp only [srcP_b] at hc3 hf3)
  (have hh3 := Lib.hid (show w3.heap[w.heap.size]? = some (.cells #[.int .i64 0, .int .i64 0, .slice none 0 0] 41 (0, 0)) from (hb3.block (w.heap.size) (by first | omega | (simp; done) | (simp; omega) | (simp [srcP]; omega)) (by first | omega | (simp; done) | (simp; omega) | (simp [srcP]; omega))).trans (by repeat (first | (with_reducible exact HZ2.out) | (with_reducible exact heap_alloc_new _ _) | (rw [heap_drew1]) | (rw [heap_drewN1]) | (rw [Below.heap_setCell _ _ _ _ (by first | omega | (simp; done) | (simp; omega) | (simp [srcP]; omega))]) | (rw [Below.heap_alloc _ _ _ (by first | omega | (simp; done) | (simp; omega) | (simp [srcP]; omega))])))))
  have hs3 := hb3.size
  have HO3 := Lib.hid (HO2.out.bx hb3 (show b < w1.heap.size by omega))
  obtain ⟨V, rfl⟩ := Int.eq_ofNat_of_zero_le hr3a
  have hV : V < 32 := by omega
  have hbx3 : b < w3.heap.size := by omega
  clear hc3 hf3 hb3 hB2
  go_wp2_with fail
  (go_at_call 80; go_call (HPT.out V g2 0 c2 _ w3.heap.size hV (HO3.out.ri HFL.out) (Nat.le_refl _)) as e4 w4 ⟨v4, rfl, ho4, hbb4⟩)
  have hB4 : BX (srcP 97 b A n c bs B) w.heap.size w w4 := BX.thenB hB3 (by omega) hbb4
  have hs4 := hbb4.size
  have hp4 := HPL.out V
  generalize put1 N fmtA (fmtB N) (stdW V) fx 15 = zs at ho4 hp4
  obtain ⟨g4, c4, rfl, hg4, hg4w, -, -⟩ := ho4.row (by rw [hp4]; omega)
  rw [hp4] at ho4 ⊢
  have HZ4 := Lib.hid (blk_alloc (u := .cells #[.int .i64 (N : Int), .int .i64 (N : Int), .slice (some ⟨g4, 0, none⟩) NN c4] 41) (blk_below hh3.out hbb4 (by omega)) (by omega))
  have HX4 : Hid ((w4.alloc (.cells #[.int .i64 (N : Int), .int .i64 (N : Int), .slice (some ⟨g4, 0, none⟩) NN c4] 41)).heap[w4.heap.size]? = some (.cells #[.int .i64 (N : Int), .int .i64 (N : Int), .slice (some ⟨g4, 0, none⟩) NN c4] 41 (0, 0))) := Lib.hid (heap_alloc_new _ _)
  have HR4 := Lib.hid ((ho4.ri hp4).alloc (Nat.le_refl _) (.cells #[.int .i64 (N : Int), .int .i64 (N : Int), .slice (some ⟨g4, 0, none⟩) NN c4] 41))
  have HB4 := Lib.hid (hB4.alloc (show w.heap.size ≤ w4.heap.size by omega) (.cells #[.int .i64 (N : Int), .int .i64 (N : Int), .slice (some ⟨g4, 0, none⟩) NN c4] 41))
  have HP4 := Lib.hid hp4
  obtain ⟨y0, y1, y2, -⟩ := blk3 HX4.out
  clear ho4 hbb4 hB3 hB4 hp4
  go_wp2_with fail
  (go_at_call 82; go_call (l01Own_any g4 0 NN c4 zs _ w4.heap.size HR4.out (by omega) (by omega)) as e5 w5 ⟨v5, rfl, ho5, hbb5⟩)
  have hs5 := hbb5.size
  simp only [World.size_alloc] at hs5
  obtain ⟨g5, c5, rfl, hg5, hg5w, -, -⟩ := ho5.row (by rw [HP4.out]; omega)
  simp only [World.size_alloc] at hg5
  rw [HP4.out] at ho5 ⊢
  have HO5 : Hid (Own w5 (w4.heap.size + 1) (.slice (some ⟨g5, 0, none⟩) NN c5) zs) := Lib.hid (ho5.more (by simp))
  have HZ5 := Lib.hid (blk_below HZ4.out hbb5 (by simp; omega))
  have HB5 : Hid (BX (srcP 97 b A n c bs B) w.heap.size w w5) := Lib.hid (BX.thenB HB4.out (by simp; omega) hbb5)
  have hbg5 : b < g5 := by omega
  have hwg5 : w.heap.size < g5 := by omega
  have hww5 : w.heap.size < w4.heap.size + 1 := by omega
  clear ho5 hbb5 y0 y1 y2
  go_wp2_with fail
  go_loopw [6] (fun i wr => ∃ k : Nat, k ≤ NN ∧ i = .int .i64 k ∧ Hid (∃ ys : List Int, ys.length = NN ∧ Own wr (w4.heap.size + 1) (.slice (some ⟨g5, 0, none⟩) NN c5) ys) ∧ Hid (BX (srcP 97 b A n c bs B) w.heap.size w wr) ∧
      Hid (w5.heap.size ≤ wr.heap.size ∧ wr.heap[w.heap.size]? = some (.cells #[.int .i64 0, .int .i64 0, .slice none 0 0] 41 (0, 0))))
    (fun i _ => NN - (intOf i).toNat)
  case atStart => exact ⟨0, Nat.zero_le _, rfl, Lib.hid ⟨zs, HP4.out, HO5.out⟩, HB5, Lib.hid ⟨Nat.le_refl _, HZ5.out⟩⟩
  case round =>
    rename World => wo
    obtain ⟨k, hk, rfl, hown, hbx, hsz⟩ := hrel
    obtain ⟨ys, hyl, hoy⟩ := hown.out
    have HOY := Lib.hid hoy
    have HYL := Lib.hid hyl
    have hBo := hbx.out
    have hso := hsz.out.1
    have HZo := Lib.hid hsz.out.2
    have hbo : b < wo.heap.size := by omega
    have hwo : w.heap.size < wo.heap.size := by omega
    have hgo : g5 < wo.heap.size := by omega
    clear hown hoy hyl hsz
    by_cases hkP : k < NN
    · obtain ⟨g', c', e', -, -, hcc, hff⟩ := HOY.out.row (by rw [HYL.out]; omega)
      simp only [Value.slice.injEq, Option.some.injEq, Addr.mk.injEq, and_true] at e'
      obtain ⟨rfl, -, rfl⟩ := e'
      have hck5 := hcc k (by rw [HYL.out]; exact hkP)
      generalize nth ys k = y at hck5
      clear hcc hff
      by_cases hy : y < 0
      · go_wp2_with fail
        (go_at_call 62; with_reducible refine (draw_any b A n c bs B (2) _ (bxinv (B := w.heap.size) ?_ HI) (by omega)).mono ?_; (focus (repeat (first | (with_reducible assumption) | (with_reducible exact BX.refl _ _ _) | (with_reducible refine BX.drewN ?_ _) | (with_reducible refine BX.drew ?_) | ((with_reducible refine BX.alloc ?_ ?_ _); rotate_left; (focus (first | (simp; done) | omega | (simp; omega) | (simp [srcP]; done) | (simp [srcP]; omega)))) | ((with_reducible refine BX.setCell ?_ ?_ ?_ _); rotate_left; (focus (first | (simp; done) | omega | (simp; omega) | (simp [srcP]; done) | (simp [srcP]; omega))); (focus (first | (simp; done) | omega | (simp; omega) | (simp [srcP]; done) | (simp [srcP]; omega))))))); rintro e6 w6 ⟨u6, rfl, ⟨r6, rfl, hr6a, hr6b⟩, hb6⟩; have hB6 : BX (srcP 97 b A n c bs B) w.heap.size w w6 := BX.then (by (repeat (first | (with_reducible assumption) | (with_reducible exact BX.refl _ _ _) | (with_reducible refine BX.drewN ?_ _) | (with_reducible refine BX.drew ?_) | ((with_reducible refine BX.alloc ?_ ?_ _); rotate_left; (focus (first | (simp; done) | omega | (simp; omega) | (simp [srcP]; done) | (simp [srcP]; omega)))) | ((with_reducible refine BX.setCell ?_ ?_ ?_ _); rotate_left; (focus (first | (simp; done) | omega | (simp; omega) | (simp [srcP]; done) | (simp [srcP]; omega))); (focus (first | (simp; done) | omega | (simp; omega) | (simp [srcP]; done) | (simp [srcP]; omega))))))) (by first | omega | (simp; done) | (simp; omega)) hb6; have hc6 := bxcell hb6; have hf6 := bxfrozen hb6; simp only [srcP_b] at hc6 hf6)
        (have hh6 := Lib.hid (show w6.heap[w.heap.size]? = some (.cells #[.int .i64 0, .int .i64 0, .slice none 0 0] 41 (0, 0)) from (hb6.block (w.heap.size) (by first | omega | (simp; done) | (simp; omega) | (simp [srcP]; omega)) (by first | omega | (simp; done) | (simp; omega) | (simp [srcP]; omega))).trans (by repeat (first | (with_reducible exact HZo.out) | (with_reducible exact heap_alloc_new _ _) | (rw [heap_drew1]) | (rw [heap_drewN1]) | (rw [Below.heap_setCell _ _ _ _ (by first | omega | (simp; done) | (simp; omega) | (simp [srcP]; omega))]) | (rw [Below.heap_alloc _ _ _ (by first | omega | (simp; done) | (simp; omega) | (simp [srcP]; omega))])))))
        have hs6 := hb6.size
        have HO6 := Lib.hid (HOY.out.bx hb6 (show b < w4.heap.size + 1 by omega))
        obtain ⟨g', c', e', -, -, hcc, hff⟩ := HO6.out.row (by rw [HYL.out]; omega)
        simp only [Value.slice.injEq, Option.some.injEq, Addr.mk.injEq, and_true] at e'
        obtain ⟨rfl, -, rfl⟩ := e'
        have hck6 := hcc k (by rw [HYL.out]; exact hkP)
        have hfk6 := hff k
        clear hc6 hf6 hb6 hcc hff hck5
        go_wp2_with fail
        go_roundw
        case rel => exact ⟨k + 1, by omega, by go_num, Lib.hid ⟨ys.set k r6, by rw [List.length_set]; exact HYL.out, Own.setn HYL.out HO6.out⟩, Lib.hid (hB6.setCell (p := ⟨g5, k, none⟩) (show w.heap.size ≤ g5 by omega) hbg5 _), Lib.hid ⟨by simp; omega, blk_other hh6.out (by omega)⟩⟩
        case measure => simp [intOf]; omega
      · go_wp2_with fail
        go_roundw
        case rel => exact ⟨k + 1, by omega, by go_num, Lib.hid ⟨ys, HYL.out, HOY.out⟩, hbx, Lib.hid ⟨hso, HZo.out⟩⟩
        case measure => simp [intOf]; omega
    · obtain rfl : k = NN := by omega
      go_wp2_with fail
      (go_at_call 62; with_reducible refine (draw_any b A n c bs B (20) _ (bxinv (B := w.heap.size) ?_ HI) (by omega)).mono ?_; (focus (repeat (first | (with_reducible assumption) | (with_reducible exact BX.refl _ _ _) | (with_reducible refine BX.drewN ?_ _) | (with_reducible refine BX.drew ?_) | ((with_reducible refine BX.alloc ?_ ?_ _); rotate_left; (focus (first | (simp; done) | omega | (simp; omega) | (simp [srcP]; done) | (simp [srcP]; omega)))) | ((with_reducible refine BX.setCell ?_ ?_ ?_ _); rotate_left; (focus (first | (simp; done) | omega | (simp; omega) | (simp [srcP]; done) | (simp [srcP]; omega))); (focus (first | (simp; done) | omega | (simp; omega) | (simp [srcP]; done) | (simp [srcP]; omega))))))); rintro e7 w7 ⟨u7, rfl, ⟨r7, rfl, hr7a, hr7b⟩, hb7⟩; have hB7 : BX (srcP 97 b A n c bs B) w.heap.size w w7 := BX.then (by (repeat (first | (with_reducible assumption) | (with_reducible exact BX.refl _ _ _) | (with_reducible refine BX.drewN ?_ _) | (with_reducible refine BX.drew ?_) | ((with_reducible refine BX.alloc ?_ ?_ _); rotate_left; (focus (first | (simp; done) | omega | (simp; omega) | (simp [srcP]; done) | (simp [srcP]; omega)))) | ((with_reducible refine BX.setCell ?_ ?_ ?_ _); rotate_left; (focus (first | (simp; done) | omega | (simp; omega) | (simp [srcP]; done) | (simp [srcP]; omega))); (focus (first | (simp; done) | omega | (simp; omega) | (simp [srcP]; done) | (simp [srcP]; omega))))))) (by first | omega | (simp; done) | (simp; omega)) hb7; have hc7 := bxcell hb7; have hf7 := bxfrozen hb7; simp only [srcP_b] at hc7 hf7)
      (have hh7 := Lib.hid (show w7.heap[w.heap.size]? = some (.cells #[.int .i64 0, .int .i64 0, .slice none 0 0] 41 (0, 0)) from (hb7.block (w.heap.size) (by first | omega | (simp; done) | (simp; omega) | (simp [srcP]; omega)) (by first | omega | (simp; done) | (simp; omega) | (simp [srcP]; omega))).trans (by repeat (first | (with_reducible exact HZo.out) | (with_reducible exact heap_alloc_new _ _) | (rw [heap_drew1]) | (rw [heap_drewN1]) | (rw [Below.heap_setCell _ _ _ _ (by first | omega | (simp; done) | (simp; omega) | (simp [srcP]; omega))]) | (rw [Below.heap_alloc _ _ _ (by first | omega | (simp; done) | (simp; omega) | (simp [srcP]; omega))])))))
      have hs7 := hb7.size
      have HO7 := Lib.hid (HOY.out.bx hb7 (show b < w4.heap.size + 1 by omega))
      have HB7 := Lib.hid hB7
      have hs57 : w5.heap.size ≤ w7.heap.size := by omega
      obtain ⟨M, rfl⟩ := Int.eq_ofNat_of_zero_le hr7a
      have hM : M ≤ 19 := by omega
      clear hc7 hf7 hb7 hB7 hBo
      go_wp2_with fail
      go_loopw [7, 8] (fun q q1 wr => ∃ m : Nat, m ≤ 19 ∧ q = .int .i64 m ∧ Hid (∃ ys : List Int, ys.length = k ∧ Own wr (w4.heap.size + 1) (.slice (some ⟨g5, 0, none⟩) k c5) ys) ∧ Hid (BX (srcP 97 b A n c bs B) w.heap.size w wr) ∧
          Hid (w5.heap.size ≤ wr.heap.size ∧ wr.heap[w.heap.size]? = some (.cells #[.int .i64 0, .int .i64 0, .slice none 0 0] 41 (0, 0))))
        (fun q _ _ => (intOf q).toNat)
      case atStart => exact ⟨M, hM, rfl, Lib.hid ⟨ys, HYL.out, HO7.out⟩, HB7, Lib.hid ⟨hs57, hh7.out⟩⟩
      case round =>
        rename World => wq
        obtain ⟨m, hm, rfl, hown, hbx, hsz⟩ := hrel
        obtain ⟨xs, hyl, hoy⟩ := hown.out
        have HOX := Lib.hid hoy
        have HXL := Lib.hid hyl
        have hBq := hbx.out
        have hsq := hsz.out.1
        have HZq := Lib.hid hsz.out.2
        have hbq : b < wq.heap.size := by omega
        have hwq : w.heap.size < wq.heap.size := by omega
        clear hown hoy hyl hsz
        rcases m with _ | m
        · go_wp2_with fail
          (go_at_call 62; with_reducible refine (draw_any b A n c bs B (30) _ (bxinv (B := w.heap.size) ?_ HI) (by omega)).mono ?_; (focus (repeat (first | (with_reducible assumption) | (with_reducible exact BX.refl _ _ _) | (with_reducible refine BX.drewN ?_ _) | (with_reducible refine BX.drew ?_) | ((with_reducible refine BX.alloc ?_ ?_ _); rotate_left; (focus (first | (simp; done) | omega | (simp; omega) | (simp [srcP]; done) | (simp [srcP]; omega)))) | ((with_reducible refine BX.setCell ?_ ?_ ?_ _); rotate_left; (focus (first | (simp; done) | omega | (simp; omega) | (simp [srcP]; done) | (simp [srcP]; omega))); (focus (first | (simp; done) | omega | (simp; omega) | (simp [srcP]; done) | (simp [srcP]; omega))))))); rintro e8 w8 ⟨u8, rfl, ⟨r8, rfl, hr8a, hr8b⟩, hb8⟩; have hB8 : BX (srcP 97 b A n c bs B) w.heap.size w w8 := BX.then (by (repeat (first | (with_reducible assumption) | (with_reducible exact BX.refl _ _ _) | (with_reducible refine BX.drewN ?_ _) | (with_reducible refine BX.drew ?_) | ((with_reducible refine BX.alloc ?_ ?_ _); rotate_left; (focus (first | (simp; done) | omega | (simp; omega) | (simp [srcP]; done) | (simp [srcP]; omega)))) | ((with_reducible refine BX.setCell ?_ ?_ ?_ _); rotate_left; (focus (first | (simp; done) | omega | (simp; omega) | (simp [srcP]; done) | (simp [srcP]; omega))); (focus (first | (simp; done) | omega | (simp; omega) | (simp [srcP]; done) | (simp [srcP]; omega))))))) (by first | omega | (simp; done) | (simp; omega)) hb8; have hc8 := bxcell hb8; have hf8 := bxfrozen hb8; simp only [srcP_b] at hc8 hf8)
          (have hh8 := Lib.hid (show w8.heap[w.heap.size]? = some (.cells #[.int .i64 0, .int .i64 0, .slice none 0 0] 41 (0, 0)) from (hb8.block (w.heap.size) (by first | omega | (simp; done) | (simp; omega) | (simp [srcP]; omega)) (by first | omega | (simp; done) | (simp; omega) | (simp [srcP]; omega))).trans (by repeat (first | (with_reducible exact HZq.out) | (with_reducible exact heap_alloc_new _ _) | (rw [heap_drew1]) | (rw [heap_drewN1]) | (rw [Below.heap_setCell _ _ _ _ (by first | omega | (simp; done) | (simp; omega) | (simp [srcP]; omega))]) | (rw [Below.heap_alloc _ _ _ (by first | omega | (simp; done) | (simp; omega) | (simp [srcP]; omega))])))))
          have hs8 := hb8.size
          have HO8 := Lib.hid (HOX.out.bx hb8 (show b < w4.heap.size + 1 by omega))
          have hb8w : b < w8.heap.size := by omega
          clear hc8 hf8 hb8 hBq
          by_cases e0 : r8 = 0
          · subst e0
            go_wp2_with fail
            (go_at_call 64; with_reducible refine (l14DrawGrid_any b A n c bs B _ (bxinv (B := w.heap.size) ?_ HI)).mono ?_; (focus (repeat (first | (with_reducible assumption) | (with_reducible exact BX.refl _ _ _) | (with_reducible refine BX.drewN ?_ _) | (with_reducible refine BX.drew ?_) | ((with_reducible refine BX.alloc ?_ ?_ _); rotate_left; (focus (first | (simp; done) | omega | (simp; omega) | (simp [srcP]; done) | (simp [srcP]; omega)))) | ((with_reducible refine BX.setCell ?_ ?_ ?_ _); rotate_left; (focus (first | (simp; done) | omega | (simp; omega) | (simp [srcP]; done) | (simp [srcP]; omega))); (focus (first | (simp; done) | omega | (simp; omega) | (simp [srcP]; done) | (simp [srcP]; omega))))))); rintro e9 w9 ⟨u9, rfl, hdg, hb9⟩; have hB9 : BX (srcP 97 b A n c bs B) w.heap.size w w9 := BX.then (by (repeat (first | (with_reducible assumption) | (with_reducible exact BX.refl _ _ _) | (with_reducible refine BX.drewN ?_ _) | (with_reducible refine BX.drew ?_) | ((with_reducible refine BX.alloc ?_ ?_ _); rotate_left; (focus (first | (simp; done) | omega | (simp; omega) | (simp [srcP]; done) | (simp [srcP]; omega)))) | ((with_reducible refine BX.setCell ?_ ?_ ?_ _); rotate_left; (focus (first | (simp; done) | omega | (simp; omega) | (simp [srcP]; done) | (simp [srcP]; omega))); (focus (first | (simp; done) | omega | (simp; omega) | (simp [srcP]; done) | (simp [srcP]; omega))))))) (by first | omega | (simp; done) | (simp; omega)) hb9; have hc9 := bxcell hb9; have hf9 := bxfrozen hb9; simp only [srcP_b] at hc9 hf9)
            obtain ⟨r', c', v', xs', rfl, hx1, hx2, ho', -, -, -, -⟩ := hdg
            (have hh9 := Lib.hid (show w9.heap[w.heap.size]? = some (.cells #[.int .i64 0, .int .i64 0, .slice none 0 0] 41 (0, 0)) from (hb9.block (w.heap.size) (by first | omega | (simp; done) | (simp; omega) | (simp [srcP]; omega)) (by first | omega | (simp; done) | (simp; omega) | (simp [srcP]; omega))).trans (by repeat (first | (with_reducible exact hh8.out) | (with_reducible exact heap_alloc_new _ _) | (rw [heap_drew1]) | (rw [heap_drewN1]) | (rw [Below.heap_setCell _ _ _ _ (by first | omega | (simp; done) | (simp; omega) | (simp [srcP]; omega))]) | (rw [Below.heap_alloc _ _ _ (by first | omega | (simp; done) | (simp; omega) | (simp [srcP]; omega))])))))
            obtain ⟨A', c'', rfl, -⟩ := ho'.shape
            have hw8 : w.heap.size < w8.heap.size := by omega
            have HO9 := Lib.hid ho'
            obtain ⟨z0, z1, z2, zf⟩ := blk3 hh9.out
            obtain ⟨s0, s1, s2⟩ := res3 hh9.out (.int .i64 r') (.int .i64 c') (.slice A' xs'.length c'')
            clear hc9 hf9 hb9 ho'
            go_wp2_with fail
            (try simp only [Exit.inBlock, Exit.then]); refine bodyPost_ret (by simp [results, Try.results65, go_sem, s0, s1, s2]; try rfl) rfl ?_
            exact ⟨_, rfl, ⟨_, _, _, xs', rfl, hx1, hx2, ((((HO9.out.setLt (p := ⟨w.heap.size, 0, none⟩) hw8 _).setLt (p := ⟨w.heap.size, 1, none⟩) hw8 _).setLt (p := ⟨w.heap.size, 2, none⟩) hw8 _)).more (Nat.le_of_lt hw8)⟩, ((hB9.setCell (p := ⟨w.heap.size, 0, none⟩) (Nat.le_refl _) hbw _).setCell (p := ⟨w.heap.size, 1, none⟩) (Nat.le_refl _) hbw _).setCell (p := ⟨w.heap.size, 2, none⟩) (Nat.le_refl _) hbw _⟩
          · have e0' : (r8 == 0) = false := by simpa using e0
            obtain ⟨z0, z1, z2, zf⟩ := blk3 hh8.out
            obtain ⟨s0, s1, s2⟩ := res3 hh8.out (.int .i64 (N : Int)) (.int .i64 (N : Int)) (.slice (some ⟨g5, 0, none⟩) k c5)
            go_wp2_with fail
            (try simp only [Exit.inBlock, Exit.then]); refine bodyPost_ret (by simp [results, Try.results65, go_sem, s0, s1, s2]; try rfl) rfl ?_
            exact ⟨_, rfl, ⟨_, _, _, xs, rfl, by rw [HXL.out]; omega, by rw [HXL.out]; omega, ((((HO8.out.setLt (p := ⟨w.heap.size, 0, none⟩) hww5 _).setLt (p := ⟨w.heap.size, 1, none⟩) hww5 _).setLt (p := ⟨w.heap.size, 2, none⟩) hww5 _)).more (Nat.le_of_lt hww5)⟩, ((hB8.setCell (p := ⟨w.heap.size, 0, none⟩) (Nat.le_refl _) hbw _).setCell (p := ⟨w.heap.size, 1, none⟩) (Nat.le_refl _) hbw _).setCell (p := ⟨w.heap.size, 2, none⟩) (Nat.le_refl _) hbw _⟩
        · go_wp2_with fail
          (go_at_call 62; with_reducible refine (draw_any b A n c bs B ((k : Int)) _ (bxinv (B := w.heap.size) ?_ HI) (by omega)).mono ?_; (focus (repeat (first | (with_reducible assumption) | (with_reducible exact BX.refl _ _ _) | (with_reducible refine BX.drewN ?_ _) | (with_reducible refine BX.drew ?_) | ((with_reducible refine BX.alloc ?_ ?_ _); rotate_left; (focus (first | (simp; done) | omega | (simp; omega) | (simp [srcP]; done) | (simp [srcP]; omega)))) | ((with_reducible refine BX.setCell ?_ ?_ ?_ _); rotate_left; (focus (first | (simp; done) | omega | (simp; omega) | (simp [srcP]; done) | (simp [srcP]; omega))); (focus (first | (simp; done) | omega | (simp; omega) | (simp [srcP]; done) | (simp [srcP]; omega))))))); rintro e10 w10 ⟨u10, rfl, ⟨r10, rfl, hr10a, hr10b⟩, hb10⟩; have hB10 : BX (srcP 97 b A n c bs B) w.heap.size w w10 := BX.then (by (repeat (first | (with_reducible assumption) | (with_reducible exact BX.refl _ _ _) | (with_reducible refine BX.drewN ?_ _) | (with_reducible refine BX.drew ?_) | ((with_reducible refine BX.alloc ?_ ?_ _); rotate_left; (focus (first | (simp; done) | omega | (simp; omega) | (simp [srcP]; done) | (simp [srcP]; omega)))) | ((with_reducible refine BX.setCell ?_ ?_ ?_ _); rotate_left; (focus (first | (simp; done) | omega | (simp; omega) | (simp [srcP]; done) | (simp [srcP]; omega))); (focus (first | (simp; done) | omega | (simp; omega) | (simp [srcP]; done) | (simp [srcP]; omega))))))) (by first | omega | (simp; done) | (simp; omega)) hb10; have hc10 := bxcell hb10; have hf10 := bxfrozen hb10; simp only [srcP_b] at hc10 hf10)
          (have hh10 := Lib.hid (show w10.heap[w.heap.size]? = some (.cells #[.int .i64 0, .int .i64 0, .slice none 0 0] 41 (0, 0)) from (hb10.block (w.heap.size) (by first | omega | (simp; done) | (simp; omega) | (simp [srcP]; omega)) (by first | omega | (simp; done) | (simp; omega) | (simp [srcP]; omega))).trans (by repeat (first | (with_reducible exact HZq.out) | (with_reducible exact heap_alloc_new _ _) | (rw [heap_drew1]) | (rw [heap_drewN1]) | (rw [Below.heap_setCell _ _ _ _ (by first | omega | (simp; done) | (simp; omega) | (simp [srcP]; omega))]) | (rw [Below.heap_alloc _ _ _ (by first | omega | (simp; done) | (simp; omega) | (simp [srcP]; omega))])))))
          have hs10 := hb10.size
          have HO10 := Lib.hid (HOX.out.bx hb10 (show b < w4.heap.size + 1 by omega))
          have hb10w : b < w10.heap.size := by omega
          obtain ⟨T, rfl⟩ := Int.eq_ofNat_of_zero_le hr10a
          have hT : T < k := by omega
          clear hc10 hf10 hb10 hBq
          go_wp2_with fail
          (go_at_call 62; with_reducible refine (draw_any b A n c bs B (2) _ (bxinv (B := w.heap.size) ?_ HI) (by omega)).mono ?_; (focus (repeat (first | (with_reducible assumption) | (with_reducible exact BX.refl _ _ _) | (with_reducible refine BX.drewN ?_ _) | (with_reducible refine BX.drew ?_) | ((with_reducible refine BX.alloc ?_ ?_ _); rotate_left; (focus (first | (simp; done) | omega | (simp; omega) | (simp [srcP]; done) | (simp [srcP]; omega)))) | ((with_reducible refine BX.setCell ?_ ?_ ?_ _); rotate_left; (focus (first | (simp; done) | omega | (simp; omega) | (simp [srcP]; done) | (simp [srcP]; omega))); (focus (first | (simp; done) | omega | (simp; omega) | (simp [srcP]; done) | (simp [srcP]; omega))))))); rintro e11 w11 ⟨u11, rfl, ⟨r11, rfl, hr11a, hr11b⟩, hb11⟩; have hB11 : BX (srcP 97 b A n c bs B) w.heap.size w w11 := BX.then (by (repeat (first | (with_reducible assumption) | (with_reducible exact BX.refl _ _ _) | (with_reducible refine BX.drewN ?_ _) | (with_reducible refine BX.drew ?_) | ((with_reducible refine BX.alloc ?_ ?_ _); rotate_left; (focus (first | (simp; done) | omega | (simp; omega) | (simp [srcP]; done) | (simp [srcP]; omega)))) | ((with_reducible refine BX.setCell ?_ ?_ ?_ _); rotate_left; (focus (first | (simp; done) | omega | (simp; omega) | (simp [srcP]; done) | (simp [srcP]; omega))); (focus (first | (simp; done) | omega | (simp; omega) | (simp [srcP]; done) | (simp [srcP]; omega))))))) (by first | omega | (simp; done) | (simp; omega)) hb11; have hc11 := bxcell hb11; have hf11 := bxfrozen hb11; simp only [srcP_b] at hc11 hf11)
          (have hh11 := Lib.hid (show w11.heap[w.heap.size]? = some (.cells #[.int .i64 0, .int .i64 0, .slice none 0 0] 41 (0, 0)) from (hb11.block (w.heap.size) (by first | omega | (simp; done) | (simp; omega) | (simp [srcP]; omega)) (by first | omega | (simp; done) | (simp; omega) | (simp [srcP]; omega))).trans (by repeat (first | (with_reducible exact hh10.out) | (with_reducible exact heap_alloc_new _ _) | (rw [heap_drew1]) | (rw [heap_drewN1]) | (rw [Below.heap_setCell _ _ _ _ (by first | omega | (simp; done) | (simp; omega) | (simp [srcP]; omega))]) | (rw [Below.heap_alloc _ _ _ (by first | omega | (simp; done) | (simp; omega) | (simp [srcP]; omega))])))))
          have hs11 := hb11.size
          have HO11 := Lib.hid (HO10.out.bx hb11 (show b < w4.heap.size + 1 by omega))
          have hb11w : b < w11.heap.size := by omega
          clear hc11 hf11 hb11 hB10
          by_cases e1 : r11 = 0
          · subst e1
            go_wp2_with fail
            (go_at_call 62; with_reducible refine (draw_any b A n c bs B ((N : Int)) _ (bxinv (B := w.heap.size) ?_ HI) (by omega)).mono ?_; (focus (repeat (first | (with_reducible assumption) | (with_reducible exact BX.refl _ _ _) | (with_reducible refine BX.drewN ?_ _) | (with_reducible refine BX.drew ?_) | ((with_reducible refine BX.alloc ?_ ?_ _); rotate_left; (focus (first | (simp; done) | omega | (simp; omega) | (simp [srcP]; done) | (simp [srcP]; omega)))) | ((with_reducible refine BX.setCell ?_ ?_ ?_ _); rotate_left; (focus (first | (simp; done) | omega | (simp; omega) | (simp [srcP]; done) | (simp [srcP]; omega))); (focus (first | (simp; done) | omega | (simp; omega) | (simp [srcP]; done) | (simp [srcP]; omega))))))); rintro e12 w12 ⟨u12, rfl, ⟨r12, rfl, hr12a, hr12b⟩, hb12⟩; have hB12 : BX (srcP 97 b A n c bs B) w.heap.size w w12 := BX.then (by (repeat (first | (with_reducible assumption) | (with_reducible exact BX.refl _ _ _) | (with_reducible refine BX.drewN ?_ _) | (with_reducible refine BX.drew ?_) | ((with_reducible refine BX.alloc ?_ ?_ _); rotate_left; (focus (first | (simp; done) | omega | (simp; omega) | (simp [srcP]; done) | (simp [srcP]; omega)))) | ((with_reducible refine BX.setCell ?_ ?_ ?_ _); rotate_left; (focus (first | (simp; done) | omega | (simp; omega) | (simp [srcP]; done) | (simp [srcP]; omega))); (focus (first | (simp; done) | omega | (simp; omega) | (simp [srcP]; done) | (simp [srcP]; omega))))))) (by first | omega | (simp; done) | (simp; omega)) hb12; have hc12 := bxcell hb12; have hf12 := bxfrozen hb12; simp only [srcP_b] at hc12 hf12)
            (have hh12 := Lib.hid (show w12.heap[w.heap.size]? = some (.cells #[.int .i64 0, .int .i64 0, .slice none 0 0] 41 (0, 0)) from (hb12.block (w.heap.size) (by first | omega | (simp; done) | (simp; omega) | (simp [srcP]; omega)) (by first | omega | (simp; done) | (simp; omega) | (simp [srcP]; omega))).trans (by repeat (first | (with_reducible exact hh11.out) | (with_reducible exact heap_alloc_new _ _) | (rw [heap_drew1]) | (rw [heap_drewN1]) | (rw [Below.heap_setCell _ _ _ _ (by first | omega | (simp; done) | (simp; omega) | (simp [srcP]; omega))]) | (rw [Below.heap_alloc _ _ _ (by first | omega | (simp; done) | (simp; omega) | (simp [srcP]; omega))])))))
            have hs12 := hb12.size
            have HO12 := Lib.hid (HO11.out.bx hb12 (show b < w4.heap.size + 1 by omega))
            have hb12w : b < w12.heap.size := by omega
            obtain ⟨S, rfl⟩ := Int.eq_ofNat_of_zero_le hr12a
            obtain ⟨T2, hT2⟩ : ∃ T2, 8 * N + S = T2 := ⟨_, rfl⟩
            have hT2i : 8 * (N : Int) + S = (T2 : Int) := by omega
            have hT2k : T2 < k := by omega
            clear hc12 hf12 hb12 hB11
            go_wp2_with fail
            (go_at_call 62; with_reducible refine (draw_any b A n c bs B (3) _ (bxinv (B := w.heap.size) ?_ HI) (by omega)).mono ?_; (focus (repeat (first | (with_reducible assumption) | (with_reducible exact BX.refl _ _ _) | (with_reducible refine BX.drewN ?_ _) | (with_reducible refine BX.drew ?_) | ((with_reducible refine BX.alloc ?_ ?_ _); rotate_left; (focus (first | (simp; done) | omega | (simp; omega) | (simp [srcP]; done) | (simp [srcP]; omega)))) | ((with_reducible refine BX.setCell ?_ ?_ ?_ _); rotate_left; (focus (first | (simp; done) | omega | (simp; omega) | (simp [srcP]; done) | (simp [srcP]; omega))); (focus (first | (simp; done) | omega | (simp; omega) | (simp [srcP]; done) | (simp [srcP]; omega))))))); rintro e13 w13 ⟨u13, rfl, ⟨r13, rfl, hr13a, hr13b⟩, hb13⟩; have hB13 : BX (srcP 97 b A n c bs B) w.heap.size w w13 := BX.then (by (repeat (first | (with_reducible assumption) | (with_reducible exact BX.refl _ _ _) | (with_reducible refine BX.drewN ?_ _) | (with_reducible refine BX.drew ?_) | ((with_reducible refine BX.alloc ?_ ?_ _); rotate_left; (focus (first | (simp; done) | omega | (simp; omega) | (simp [srcP]; done) | (simp [srcP]; omega)))) | ((with_reducible refine BX.setCell ?_ ?_ ?_ _); rotate_left; (focus (first | (simp; done) | omega | (simp; omega) | (simp [srcP]; done) | (simp [srcP]; omega))); (focus (first | (simp; done) | omega | (simp; omega) | (simp [srcP]; done) | (simp [srcP]; omega))))))) (by first | omega | (simp; done) | (simp; omega)) hb13; have hc13 := bxcell hb13; have hf13 := bxfrozen hb13; simp only [srcP_b] at hc13 hf13)
            (have hh13 := Lib.hid (show w13.heap[w.heap.size]? = some (.cells #[.int .i64 0, .int .i64 0, .slice none 0 0] 41 (0, 0)) from (hb13.block (w.heap.size) (by first | omega | (simp; done) | (simp; omega) | (simp [srcP]; omega)) (by first | omega | (simp; done) | (simp; omega) | (simp [srcP]; omega))).trans (by repeat (first | (with_reducible exact hh12.out) | (with_reducible exact heap_alloc_new _ _) | (rw [heap_drew1]) | (rw [heap_drewN1]) | (rw [Below.heap_setCell _ _ _ _ (by first | omega | (simp; done) | (simp; omega) | (simp [srcP]; omega))]) | (rw [Below.heap_alloc _ _ _ (by first | omega | (simp; done) | (simp; omega) | (simp [srcP]; omega))])))))
            have hs13 := hb13.size
            have HO13 := Lib.hid (HO12.out.bx hb13 (show b < w4.heap.size + 1 by omega))
            obtain ⟨g', c', e', -, -, hcc, hff⟩ := HO13.out.row (by rw [HXL.out]; omega)
            simp only [Value.slice.injEq, Option.some.injEq, Addr.mk.injEq, and_true] at e'
            obtain ⟨rfl, -, rfl⟩ := e'
            have hck13 := hcc T2 (by rw [HXL.out]; exact hT2k)
            have hfk13 := hff T2
            clear hc13 hf13 hb13 hcc hff
            go_wp2_with fail
            go_roundw
            case rel => exact ⟨m, by omega, by go_num, Lib.hid ⟨xs.set T2 (r13 - 1), by rw [List.length_set]; exact HXL.out, Own.setn HXL.out HO13.out⟩, Lib.hid (hB13.setCell (p := ⟨g5, T2, none⟩) (show w.heap.size ≤ g5 by omega) hbg5 _), Lib.hid ⟨by simp; omega, blk_other hh13.out (by omega)⟩⟩
            case measure => simp [intOf]
          · have e1' : (r11 == 0) = false := by simpa using e1
            go_wp2_with fail
            (go_at_call 62; with_reducible refine (draw_any b A n c bs B (3) _ (bxinv (B := w.heap.size) ?_ HI) (by omega)).mono ?_; (focus (repeat (first | (with_reducible assumption) | (with_reducible exact BX.refl _ _ _) | (with_reducible refine BX.drewN ?_ _) | (with_reducible refine BX.drew ?_) | ((with_reducible refine BX.alloc ?_ ?_ _); rotate_left; (focus (first | (simp; done) | omega | (simp; omega) | (simp [srcP]; done) | (simp [srcP]; omega)))) | ((with_reducible refine BX.setCell ?_ ?_ ?_ _); rotate_left; (focus (first | (simp; done) | omega | (simp; omega) | (simp [srcP]; done) | (simp [srcP]; omega))); (focus (first | (simp; done) | omega | (simp; omega) | (simp [srcP]; done) | (simp [srcP]; omega))))))); rintro e13 w13 ⟨u13, rfl, ⟨r13, rfl, hr13a, hr13b⟩, hb13⟩; have hB13 : BX (srcP 97 b A n c bs B) w.heap.size w w13 := BX.then (by (repeat (first | (with_reducible assumption) | (with_reducible exact BX.refl _ _ _) | (with_reducible refine BX.drewN ?_ _) | (with_reducible refine BX.drew ?_) | ((with_reducible refine BX.alloc ?_ ?_ _); rotate_left; (focus (first | (simp; done) | omega | (simp; omega) | (simp [srcP]; done) | (simp [srcP]; omega)))) | ((with_reducible refine BX.setCell ?_ ?_ ?_ _); rotate_left; (focus (first | (simp; done) | omega | (simp; omega) | (simp [srcP]; done) | (simp [srcP]; omega))); (focus (first | (simp; done) | omega | (simp; omega) | (simp [srcP]; done) | (simp [srcP]; omega))))))) (by first | omega | (simp; done) | (simp; omega)) hb13; have hc13 := bxcell hb13; have hf13 := bxfrozen hb13; simp only [srcP_b] at hc13 hf13)
            (have hh13 := Lib.hid (show w13.heap[w.heap.size]? = some (.cells #[.int .i64 0, .int .i64 0, .slice none 0 0] 41 (0, 0)) from (hb13.block (w.heap.size) (by first | omega | (simp; done) | (simp; omega) | (simp [srcP]; omega)) (by first | omega | (simp; done) | (simp; omega) | (simp [srcP]; omega))).trans (by repeat (first | (with_reducible exact hh11.out) | (with_reducible exact heap_alloc_new _ _) | (rw [heap_drew1]) | (rw [heap_drewN1]) | (rw [Below.heap_setCell _ _ _ _ (by first | omega | (simp; done) | (simp; omega) | (simp [srcP]; omega))]) | (rw [Below.heap_alloc _ _ _ (by first | omega | (simp; done) | (simp; omega) | (simp [srcP]; omega))])))))
            have hs13 := hb13.size
            have HO13 := Lib.hid (HO11.out.bx hb13 (show b < w4.heap.size + 1 by omega))
            obtain ⟨g', c', e', -, -, hcc, hff⟩ := HO13.out.row (by rw [HXL.out]; omega)
            simp only [Value.slice.injEq, Option.some.injEq, Addr.mk.injEq, and_true] at e'
            obtain ⟨rfl, -, rfl⟩ := e'
            have hck13 := hcc T (by rw [HXL.out]; exact hT)
            have hfk13 := hff T
            clear hc13 hf13 hb13 hcc hff
            go_wp2_with fail
            go_roundw
            case rel => exact ⟨m, by omega, by go_num, Lib.hid ⟨xs.set T (r13 - 1), by rw [List.length_set]; exact HXL.out, Own.setn HXL.out HO13.out⟩, Lib.hid (hB13.setCell (p := ⟨g5, T, none⟩) (show w.heap.size ≤ g5 by omega) hbg5 _), Lib.hid ⟨by simp; omega, blk_other hh13.out (by omega)⟩⟩
            case measure => simp [intOf]
end Go.Proofs.Ytkipaefhnmfebaa
