/-
  What the laws of the placement draw: grids with unknown cells, and a number.
-/
import Derived.Test.YteghpageamehkaaDrS
namespace Go.Proofs.Yteghpageamehkaa
set_option linter.unusedSimpArgs false
open Go.RowKit
set_option maxRecDepth 20000 in
set_option maxHeartbeats 4000000 in
theorem l15DrawGrid_any (b : Nat) (A : Option Addr) (n c : Nat) (bs : List Int) (B : Nat) (w : World) (hI : (srcP 101 b A n c bs B).I w) :
    Calls Try.prog 78 #[.pointer (some ⟨b, 0, none⟩)] w fun e w' =>
      ∃ u, e = .returned u ∧ DG w' w.heap.size u ∧ BX (srcP 101 b A n c bs B) w.heap.size w w' := by
  have hbw := srcP_lt hI
  have hbw0 : b < w.heap.size + 1 := by omega
  have HI := Lib.hid hI
  clear hI
  go_enter Try.func78, Try.ntmps78
  go_wp2_with fail
  (go_at_call 92; with_reducible refine (l14DrawSquare_any b A n c bs B _ (bxinv (B := w.heap.size) ?_ HI)).mono ?_; (focus (repeat (first | (with_reducible assumption) | (with_reducible exact BX.refl _ _ _) | (with_reducible refine BX.drewN ?_ _) | (with_reducible refine BX.drew ?_) | ((with_reducible refine BX.alloc ?_ ?_ _); rotate_left; (focus (first | (simp; done) | omega | (simp; omega) | (simp [srcP]; done) | (simp [srcP]; omega)))) | ((with_reducible refine BX.setCell ?_ ?_ ?_ _); rotate_left; (focus (first | (simp; done) | omega | (simp; omega) | (simp [srcP]; done) | (simp [srcP]; omega))); (focus (first | (simp; done) | omega | (simp; omega) | (simp [srcP]; done) | (simp [srcP]; omega))))))); rintro e1 w1 ⟨u1, rfl, hdg, hb1⟩; have hB1 : BX (srcP 101 b A n c bs B) w.heap.size w w1 := BX.then (by (repeat (first | (with_reducible assumption) | (with_reducible exact BX.refl _ _ _) | (with_reducible refine BX.drewN ?_ _) | (with_reducible refine BX.drew ?_) | ((with_reducible refine BX.alloc ?_ ?_ _); rotate_left; (focus (first | (simp; done) | omega | (simp; omega) | (simp [srcP]; done) | (simp [srcP]; omega)))) | ((with_reducible refine BX.setCell ?_ ?_ ?_ _); rotate_left; (focus (first | (simp; done) | omega | (simp; omega) | (simp [srcP]; done) | (simp [srcP]; omega))); (focus (first | (simp; done) | omega | (simp; omega) | (simp [srcP]; done) | (simp [srcP]; omega))))))) (by first | omega | (simp; done) | (simp; omega)) hb1; have hc1 := bxcell hb1; have hf1 := bxfrozen hb1; simp only [srcP_b] at hc1 hf1)
  obtain ⟨r', c', v', xs, rfl, hx1, hx2, ho1⟩ := hdg
  (have hh1 := Lib.hid (show w1.heap[w.heap.size]? = some (.cells #[.int .i64 0, .int .i64 0, .slice none 0 0] 37 (0, 0)) from (hb1.block (w.heap.size) (by first | omega | (simp; done) | (simp; omega) | (simp [srcP]; omega)) (by first | omega | (simp; done) | (simp; omega) | (simp [srcP]; omega))).trans (by repeat (first | (with_reducible exact rfl) | (with_reducible exact heap_alloc_new _ _) | (rw [heap_drew1]) | (rw [heap_drewN1]) | (rw [Below.heap_setCell _ _ _ _ (by first | omega | (simp; done) | (simp; omega) | (simp [srcP]; omega))]) | (rw [Below.heap_alloc _ _ _ (by first | omega | (simp; done) | (simp; omega) | (simp [srcP]; omega))])))))
  have hs1 := hb1.size
  simp only [World.size_alloc] at hs1
  have hbx1 : b < w1.heap.size := by omega
  obtain ⟨T, hT⟩ : ∃ T, xs.length = T := ⟨_, rfl⟩
  rw [hT] at hx1 hx2
  obtain ⟨g1, c1, rfl, hg1, hg1w, -, -⟩ := ho1.row (by omega)
  rw [hT] at ho1 ⊢
  have HT := Lib.hid hT
  have HX1 : Hid ((w1.alloc (.cells #[.int .i64 r', .int .i64 c', .slice (some ⟨g1, 0, none⟩) T c1] 37)).heap[w1.heap.size]? = some (.cells #[.int .i64 r', .int .i64 c', .slice (some ⟨g1, 0, none⟩) T c1] 37 (0, 0))) := Lib.hid (heap_alloc_new _ _)
  have HZ1 := Lib.hid (blk_alloc (u := .cells #[.int .i64 r', .int .i64 c', .slice (some ⟨g1, 0, none⟩) T c1] 37) hh1.out (by omega))
  have HR1 := Lib.hid ((ho1.ri hT).alloc (Nat.le_refl _) (.cells #[.int .i64 r', .int .i64 c', .slice (some ⟨g1, 0, none⟩) T c1] 37))
  have HB1 := Lib.hid (hB1.alloc (show w.heap.size ≤ w1.heap.size by omega) (.cells #[.int .i64 r', .int .i64 c', .slice (some ⟨g1, 0, none⟩) T c1] 37))
  obtain ⟨y0, y1, y2, -⟩ := blk3 HX1.out
  clear ho1 hb1 hB1 hc1 hf1 hT
  go_wp2_with fail
  (go_at_call 83; go_call (l01Own_any g1 0 T c1 xs _ w1.heap.size HR1.out (by omega) (by omega)) as e2 w2 ⟨v2, rfl, ho2, hbb2⟩)
  have hs2 := hbb2.size
  simp only [World.size_alloc] at hs2
  obtain ⟨g2, c2, rfl, hg2, hg2w, -, -⟩ := ho2.row (by rw [HT.out]; omega)
  simp only [World.size_alloc] at hg2
  rw [HT.out] at ho2 ⊢
  have HO2 : Hid (Own w2 (w1.heap.size + 1) (.slice (some ⟨g2, 0, none⟩) T c2) xs) := Lib.hid (ho2.more (by simp))
  have HZ2 := Lib.hid (blk_below HZ1.out hbb2 (by simp; omega))
  have HX2 := Lib.hid (blk_below HX1.out hbb2 (by simp))
  have hB2 : BX (srcP 101 b A n c bs B) w.heap.size w w2 := BX.thenB HB1.out (by simp; omega) hbb2
  have hbx2 : b < w2.heap.size := by omega
  have hbg2 : b < g2 := by omega
  have hwg2 : w.heap.size < g2 := by omega
  have hw1g : w1.heap.size < g2 := by omega
  have hww1 : w.heap.size < w1.heap.size + 1 := by omega
  clear ho2 hbb2 y0 y1 y2
  go_wp2_with fail
  (go_at_call 51; with_reducible refine (draw_any b A n c bs B (6) _ (bxinv (B := w.heap.size) ?_ HI) (by omega)).mono ?_; (focus (repeat (first | (with_reducible assumption) | (with_reducible exact BX.refl _ _ _) | (with_reducible refine BX.drewN ?_ _) | (with_reducible refine BX.drew ?_) | ((with_reducible refine BX.alloc ?_ ?_ _); rotate_left; (focus (first | (simp; done) | omega | (simp; omega) | (simp [srcP]; done) | (simp [srcP]; omega)))) | ((with_reducible refine BX.setCell ?_ ?_ ?_ _); rotate_left; (focus (first | (simp; done) | omega | (simp; omega) | (simp [srcP]; done) | (simp [srcP]; omega))); (focus (first | (simp; done) | omega | (simp; omega) | (simp [srcP]; done) | (simp [srcP]; omega))))))); rintro e3 w3 ⟨u3, rfl, ⟨r3, rfl, hr3a, hr3b⟩, hb3⟩; have hB3 : BX (srcP 101 b A n c bs B) w.heap.size w w3 := BX.then (by (repeat (first | (with_reducible assumption) | (with_reducible exact BX.refl _ _ _) | (with_reducible refine BX.drewN ?_ _) | (with_reducible refine BX.drew ?_) | ((with_reducible refine BX.alloc ?_ ?_ _); rotate_left; (focus (first | (simp; done) | omega | (simp; omega) | (simp [srcP]; done) | (simp [srcP]; omega)))) | ((with_reducible refine BX.setCell ?_ ?_ ?_ _); rotate_left; (focus (first | (simp; done) | omega | (simp; omega) | (simp [srcP]; done) | (simp [srcP]; omega))); (focus (first | (simp; done) | omega | (simp; omega) | (simp [srcP]; done) | (simp [srcP]; omega))))))) (by first | omega | (simp; done) | (simp; omega)) hb3; have hc3 := bxcell hb3; have hf3 := bxfrozen hb3; simp only [srcP_b] at hc3 hf3)
  (have hh3 := Lib.hid (show w3.heap[w.heap.size]? = some (.cells #[.int .i64 0, .int .i64 0, .slice none 0 0] 37 (0, 0)) from (hb3.block (w.heap.size) (by first | omega | (simp; done) | (simp; omega) | (simp [srcP]; omega)) (by first | omega | (simp; done) | (simp; omega) | (simp [srcP]; omega))).trans (by repeat (first | (with_reducible exact HZ2.out) | (with_reducible exact heap_alloc_new _ _) | (rw [heap_drew1]) | (rw [heap_drewN1]) | (rw [Below.heap_setCell _ _ _ _ (by first | omega | (simp; done) | (simp; omega) | (simp [srcP]; omega))]) | (rw [Below.heap_alloc _ _ _ (by first | omega | (simp; done) | (simp; omega) | (simp [srcP]; omega))])))))
  (have hg3 := Lib.hid (show w3.heap[w1.heap.size]? = some (.cells #[.int .i64 r', .int .i64 c', .slice (some ⟨g1, 0, none⟩) T c1] 37 (0, 0)) from (hb3.block (w1.heap.size) (by first | omega | (simp; done) | (simp; omega) | (simp [srcP]; omega)) (by first | omega | (simp; done) | (simp; omega) | (simp [srcP]; omega))).trans (by repeat (first | (with_reducible exact HX2.out) | (with_reducible exact heap_alloc_new _ _) | (rw [heap_drew1]) | (rw [heap_drewN1]) | (rw [Below.heap_setCell _ _ _ _ (by first | omega | (simp; done) | (simp; omega) | (simp [srcP]; omega))]) | (rw [Below.heap_alloc _ _ _ (by first | omega | (simp; done) | (simp; omega) | (simp [srcP]; omega))])))))
  have hs3 := hb3.size
  have HO3 := Lib.hid (HO2.out.bx hb3 (show b < w1.heap.size + 1 by omega))
  have HB3 := Lib.hid hB3
  obtain ⟨M, rfl⟩ := Int.eq_ofNat_of_zero_le hr3a
  have hM : M ≤ 5 := by omega
  have hs23 : w2.heap.size ≤ w3.heap.size := hs3
  clear hc3 hf3 hb3 hB3 hB2
  go_wp2_with fail
  go_loopw [5] (fun q wr => ∃ m : Nat, m ≤ 5 ∧ q = .int .i64 m ∧ Hid (∃ ys : List Int, ys.length = T ∧ Own wr (w1.heap.size + 1) (.slice (some ⟨g2, 0, none⟩) T c2) ys) ∧ Hid (BX (srcP 101 b A n c bs B) w.heap.size w wr) ∧
      Hid (w2.heap.size ≤ wr.heap.size ∧ wr.heap[w.heap.size]? = some (.cells #[.int .i64 0, .int .i64 0, .slice none 0 0] 37 (0, 0)) ∧ wr.heap[w1.heap.size]? = some (.cells #[.int .i64 r', .int .i64 c', .slice (some ⟨g1, 0, none⟩) T c1] 37 (0, 0))))
    (fun q _ => (intOf q).toNat)
  case atStart => exact ⟨M, hM, rfl, Lib.hid ⟨xs, HT.out, HO3.out⟩, HB3, Lib.hid ⟨hs23, hh3.out, hg3.out⟩⟩
  case round =>
    rename World => wq
    obtain ⟨m, hm, rfl, hown, hbx, hsz⟩ := hrel
    obtain ⟨ys, hyl, hoy⟩ := hown.out
    have HOX := Lib.hid hoy
    have HXL := Lib.hid hyl
    have hBq := hbx.out
    have hsq := hsz.out.1
    have HZq := Lib.hid hsz.out.2.1
    have HGq := Lib.hid hsz.out.2.2
    have hbq : b < wq.heap.size := by omega
    clear hown hoy hyl hsz
    rcases m with _ | m
    · obtain ⟨z0, z1, z2, zf⟩ := blk3 HZq.out
      obtain ⟨y0, y1, y2, -⟩ := blk3 HGq.out
      obtain ⟨s0, s1, s2⟩ := res3 HZq.out (.int .i64 r') (.int .i64 c') (.slice (some ⟨g2, 0, none⟩) T c2)
      go_wp2_with fail
      (try simp only [Exit.inBlock, Exit.then]); refine bodyPost_ret (by simp [results, Try.results78, go_sem, s0, s1, s2]; try rfl) rfl ?_
      exact ⟨_, rfl, ⟨_, _, _, ys, rfl, by rw [HXL.out]; omega, by rw [HXL.out]; omega, ((((HOX.out.setLt (p := ⟨w.heap.size, 0, none⟩) hww1 _).setLt (p := ⟨w.heap.size, 1, none⟩) hww1 _).setLt (p := ⟨w.heap.size, 2, none⟩) hww1 _)).more (Nat.le_of_lt hww1)⟩, ((hBq.setCell (p := ⟨w.heap.size, 0, none⟩) (Nat.le_refl _) hbw _).setCell (p := ⟨w.heap.size, 1, none⟩) (Nat.le_refl _) hbw _).setCell (p := ⟨w.heap.size, 2, none⟩) (Nat.le_refl _) hbw _⟩
    · go_wp2_with fail
      (go_at_call 51; with_reducible refine (draw_any b A n c bs B ((T : Int)) _ (bxinv (B := w.heap.size) ?_ HI) (by omega)).mono ?_; (focus (repeat (first | (with_reducible assumption) | (with_reducible exact BX.refl _ _ _) | (with_reducible refine BX.drewN ?_ _) | (with_reducible refine BX.drew ?_) | ((with_reducible refine BX.alloc ?_ ?_ _); rotate_left; (focus (first | (simp; done) | omega | (simp; omega) | (simp [srcP]; done) | (simp [srcP]; omega)))) | ((with_reducible refine BX.setCell ?_ ?_ ?_ _); rotate_left; (focus (first | (simp; done) | omega | (simp; omega) | (simp [srcP]; done) | (simp [srcP]; omega))); (focus (first | (simp; done) | omega | (simp; omega) | (simp [srcP]; done) | (simp [srcP]; omega))))))); rintro e4 w4 ⟨u4, rfl, ⟨r4, rfl, hr4a, hr4b⟩, hb4⟩; have hB4 : BX (srcP 101 b A n c bs B) w.heap.size w w4 := BX.then (by (repeat (first | (with_reducible assumption) | (with_reducible exact BX.refl _ _ _) | (with_reducible refine BX.drewN ?_ _) | (with_reducible refine BX.drew ?_) | ((with_reducible refine BX.alloc ?_ ?_ _); rotate_left; (focus (first | (simp; done) | omega | (simp; omega) | (simp [srcP]; done) | (simp [srcP]; omega)))) | ((with_reducible refine BX.setCell ?_ ?_ ?_ _); rotate_left; (focus (first | (simp; done) | omega | (simp; omega) | (simp [srcP]; done) | (simp [srcP]; omega))); (focus (first | (simp; done) | omega | (simp; omega) | (simp [srcP]; done) | (simp [srcP]; omega))))))) (by first | omega | (simp; done) | (simp; omega)) hb4; have hc4 := bxcell hb4; have hf4 := bxfrozen hb4; simp only [srcP_b] at hc4 hf4)
      (have hh4 := Lib.hid (show w4.heap[w.heap.size]? = some (.cells #[.int .i64 0, .int .i64 0, .slice none 0 0] 37 (0, 0)) from (hb4.block (w.heap.size) (by first | omega | (simp; done) | (simp; omega) | (simp [srcP]; omega)) (by first | omega | (simp; done) | (simp; omega) | (simp [srcP]; omega))).trans (by repeat (first | (with_reducible exact HZq.out) | (with_reducible exact heap_alloc_new _ _) | (rw [heap_drew1]) | (rw [heap_drewN1]) | (rw [Below.heap_setCell _ _ _ _ (by first | omega | (simp; done) | (simp; omega) | (simp [srcP]; omega))]) | (rw [Below.heap_alloc _ _ _ (by first | omega | (simp; done) | (simp; omega) | (simp [srcP]; omega))])))))
      (have hg4 := Lib.hid (show w4.heap[w1.heap.size]? = some (.cells #[.int .i64 r', .int .i64 c', .slice (some ⟨g1, 0, none⟩) T c1] 37 (0, 0)) from (hb4.block (w1.heap.size) (by first | omega | (simp; done) | (simp; omega) | (simp [srcP]; omega)) (by first | omega | (simp; done) | (simp; omega) | (simp [srcP]; omega))).trans (by repeat (first | (with_reducible exact HGq.out) | (with_reducible exact heap_alloc_new _ _) | (rw [heap_drew1]) | (rw [heap_drewN1]) | (rw [Below.heap_setCell _ _ _ _ (by first | omega | (simp; done) | (simp; omega) | (simp [srcP]; omega))]) | (rw [Below.heap_alloc _ _ _ (by first | omega | (simp; done) | (simp; omega) | (simp [srcP]; omega))])))))
      have hs4 := hb4.size
      have HO4 := Lib.hid (HOX.out.bx hb4 (show b < w1.heap.size + 1 by omega))
      obtain ⟨R, rfl⟩ := Int.eq_ofNat_of_zero_le hr4a
      have hR : R < T := by omega
      obtain ⟨g', c3, e', -, -, hcc, hff⟩ := HO4.out.row (by rw [HXL.out]; omega)
      simp only [Value.slice.injEq, Option.some.injEq, Addr.mk.injEq, and_true] at e'
      obtain ⟨rfl, -, rfl⟩ := e'
      have hck4 := hcc R (by rw [HXL.out]; exact hR)
      have hfk4 := hff R
      clear hc4 hf4 hb4 hcc hff hBq
      go_wp2_with fail
      go_roundw
      case rel => exact ⟨m, by omega, by go_num, Lib.hid ⟨ys.set R (-1), by rw [List.length_set]; exact HXL.out, Own.setn HXL.out HO4.out⟩, Lib.hid (hB4.setCell (p := ⟨g2, R, none⟩) (show w.heap.size ≤ g2 by omega) hbg2 _), Lib.hid ⟨by simp; omega, blk_other hh4.out (by omega), blk_other hg4.out (by omega)⟩⟩
      case measure => simp [intOf]
theorem Own.bx' {s : SP} {B : Nat} {w w' : World} {v : Value} {xs : List Int} (hb : BX s w.heap.size w w') (h : Own w B v xs) (hlt : s.b < B) : Own w' B v xs := h.bx hb hlt
set_option maxRecDepth 20000 in
set_option maxHeartbeats 4000000 in
theorem DrawTakeElements_any (A : Option Addr) (n c : Nat) (bs : List Int) (B : Nat) (w0 : World) (hb : RB w0 B A n bs) (hB0 : B ≤ w0.heap.size) (hn : n ≤ 4096) :
    Calls Try.prog 43 #[.slice A n c] w0 fun e w' =>
      ∃ u, e = .returned u ∧ (∃ (g : Value) (d : Int), u = .tuple #[g, .int .i64 d] ∧ DG w' w0.heap.size g) ∧ Below w0.heap.size w0 w' := by
  have HRB := Lib.hid hb
  clear hb
  go_enter Try.func43, Try.ntmps43
  go_wp2_with fail
  (go_at_call 48; go_call (l01From_any A n c bs _ B (HRB.out.below ((Below.refl B w0).alloc hB0 _)) (by simp; omega) hn) as e w ⟨rfl, hs, hb0⟩)
  have hI : (srcP 101 (w0.heap.size + 1) A n c bs B).I w := ⟨by simpa using hs, (HRB.out.below ((Below.refl B w0).alloc hB0 _)).below (hb0.mono (by simp; omega)), by omega, hn⟩
  have hB0w : Below w0.heap.size w0 w := ((Below.refl _ _).alloc (Nat.le_refl _) _).trans (hb0.mono (by simp))
  have hh0 := blk_below (heap_alloc_new w0 (.cells #[.int .i64 0, .int .i64 0, .slice none 0 0] 37)) hb0 (by simp)
  simp only [World.size_alloc]
  obtain ⟨b, hbd⟩ : ∃ b, w0.heap.size + 1 = b := ⟨_, rfl⟩
  rw [hbd] at hI ⊢
  have hbw := srcP_lt hI
  have h0b : w0.heap.size < b := by omega
  have h0w : w0.heap.size < w.heap.size := by omega
  have HI := Lib.hid hI
  have HH := Lib.hid hh0
  have H0 := Lib.hid hB0w
  clear hI hh0 hs hb0 hB0w hbd
  go_wp2_with fail
  (go_at_call 78; with_reducible refine (l15DrawGrid_any b A n c bs B _ (bxinv (B := w.heap.size) ?_ HI)).mono ?_; (focus (repeat (first | (with_reducible assumption) | (with_reducible exact BX.refl _ _ _) | (with_reducible refine BX.drewN ?_ _) | (with_reducible refine BX.drew ?_) | ((with_reducible refine BX.alloc ?_ ?_ _); rotate_left; (focus (first | (simp; done) | omega | (simp; omega) | (simp [srcP]; done) | (simp [srcP]; omega)))) | ((with_reducible refine BX.setCell ?_ ?_ ?_ _); rotate_left; (focus (first | (simp; done) | omega | (simp; omega) | (simp [srcP]; done) | (simp [srcP]; omega))); (focus (first | (simp; done) | omega | (simp; omega) | (simp [srcP]; done) | (simp [srcP]; omega))))))); rintro e1 w1 ⟨u1, rfl, hdg, hb1⟩; have hB1 : BX (srcP 101 b A n c bs B) w.heap.size w w1 := BX.then (by (repeat (first | (with_reducible assumption) | (with_reducible exact BX.refl _ _ _) | (with_reducible refine BX.drewN ?_ _) | (with_reducible refine BX.drew ?_) | ((with_reducible refine BX.alloc ?_ ?_ _); rotate_left; (focus (first | (simp; done) | omega | (simp; omega) | (simp [srcP]; done) | (simp [srcP]; omega)))) | ((with_reducible refine BX.setCell ?_ ?_ ?_ _); rotate_left; (focus (first | (simp; done) | omega | (simp; omega) | (simp [srcP]; done) | (simp [srcP]; omega))); (focus (first | (simp; done) | omega | (simp; omega) | (simp [srcP]; done) | (simp [srcP]; omega))))))) (by first | omega | (simp; done) | (simp; omega)) hb1; have hc1 := bxcell hb1; have hf1 := bxfrozen hb1; simp only [srcP_b] at hc1 hf1)
  obtain ⟨r', c', v', xs, rfl, hx1, hx2, ho1⟩ := hdg
  (have hh1 := Lib.hid (show w1.heap[w0.heap.size]? = some (.cells #[.int .i64 0, .int .i64 0, .slice none 0 0] 37 (0, 0)) from (hb1.block (w0.heap.size) (by first | omega | (simp; done) | (simp; omega) | (simp [srcP]; omega)) (by first | omega | (simp; done) | (simp; omega) | (simp [srcP]; omega))).trans (by repeat (first | (with_reducible exact HH.out) | (with_reducible exact heap_alloc_new _ _) | (rw [heap_drew1]) | (rw [heap_drewN1]) | (rw [Below.heap_setCell _ _ _ _ (by first | omega | (simp; done) | (simp; omega) | (simp [srcP]; omega))]) | (rw [Below.heap_alloc _ _ _ (by first | omega | (simp; done) | (simp; omega) | (simp [srcP]; omega))])))))
  have hs1 := hb1.size
  have hbx1 : b < w1.heap.size := by omega
  have hbx2 : b < w1.heap.size + 1 := by omega
  obtain ⟨T, hT⟩ : ∃ T, xs.length = T := ⟨_, rfl⟩
  rw [hT] at hx1 hx2
  obtain ⟨g1, c1, rfl, hg1, hg1w, -, -⟩ := ho1.row (by omega)
  rw [hT] at ho1 ⊢
  have HT := Lib.hid hT
  have HO1 := Lib.hid ho1
  have n02 : w1.heap.size ≠ w0.heap.size := by omega
  have hw01 : w0.heap.size < w1.heap.size := by omega
  clear hc1 hf1 hT ho1
  go_wp2_with fail
  obtain ⟨y0, y1, y2, -⟩ := blk3 (heap_alloc_new w1 (.cells #[.int .i64 r', .int .i64 c', .slice (some ⟨g1, 0, none⟩) T c1] 37))
  go_region_held3 (fun w' => w'.cell? ⟨w1.heap.size, 0, none⟩ = some (.int .i64 r') ∧ w'.cell? ⟨w1.heap.size, 1, none⟩ = some (.int .i64 c') ∧ w'.cell? ⟨w1.heap.size, 2, none⟩ = some (.slice (some ⟨g1, 0, none⟩) T c1))
    (first | (exact ⟨y0, y1, y2⟩) | (exact ⟨q0, q1, q2⟩) | (obtain ⟨q0, q1, q2, -⟩ := blk3 (blk_other (c := w0.heap.size) (k := 2) (u := .slice (some ⟨g1, 0, none⟩) T c1) (blk_other (c := w0.heap.size) (k := 1) (u := .int .i64 c') (blk_other (c := w0.heap.size) (k := 0) (u := .int .i64 r') hg2.out n02) n02) n02); exact ⟨q0, q1, q2⟩) | go_keep)
    (((go_at_call 50; with_reducible refine (l15DrawWidth_any b A n c bs B _ (bxinv (B := w.heap.size) ?_ HI)).mono ?_; (focus (repeat (first | (with_reducible assumption) | (with_reducible exact BX.refl _ _ _) | (with_reducible refine BX.drewN ?_ _) | (with_reducible refine BX.drew ?_) | ((with_reducible refine BX.alloc ?_ ?_ _); rotate_left; (focus (first | (simp; done) | omega | (simp; omega) | (simp [srcP]; done) | (simp [srcP]; omega)))) | ((with_reducible refine BX.setCell ?_ ?_ ?_ _); rotate_left; (focus (first | (simp; done) | omega | (simp; omega) | (simp [srcP]; done) | (simp [srcP]; omega))); (focus (first | (simp; done) | omega | (simp; omega) | (simp [srcP]; done) | (simp [srcP]; omega))))))); rintro e2 w2 ⟨u2, rfl, ⟨d, rfl, hd1, hd2⟩, hb2⟩; have hB2 : BX (srcP 101 b A n c bs B) w.heap.size w w2 := BX.then (by (repeat (first | (with_reducible assumption) | (with_reducible exact BX.refl _ _ _) | (with_reducible refine BX.drewN ?_ _) | (with_reducible refine BX.drew ?_) | ((with_reducible refine BX.alloc ?_ ?_ _); rotate_left; (focus (first | (simp; done) | omega | (simp; omega) | (simp [srcP]; done) | (simp [srcP]; omega)))) | ((with_reducible refine BX.setCell ?_ ?_ ?_ _); rotate_left; (focus (first | (simp; done) | omega | (simp; omega) | (simp [srcP]; done) | (simp [srcP]; omega))); (focus (first | (simp; done) | omega | (simp; omega) | (simp [srcP]; done) | (simp [srcP]; omega))))))) (by first | omega | (simp; done) | (simp; omega)) hb2; have hc2 := bxcell hb2; have hf2 := bxfrozen hb2; simp only [srcP_b] at hc2 hf2)
      (have hh2 := Lib.hid (show w2.heap[w0.heap.size]? = some (.cells #[.int .i64 0, .int .i64 0, .slice none 0 0] 37 (0, 0)) from (hb2.block (w0.heap.size) (by first | omega | (simp; done) | (simp; omega) | (simp [srcP]; omega)) (by first | omega | (simp; done) | (simp; omega) | (simp [srcP]; omega))).trans (by repeat (first | (with_reducible exact hh1.out) | (with_reducible exact heap_alloc_new _ _) | (rw [heap_drew1]) | (rw [heap_drewN1]) | (rw [Below.heap_setCell _ _ _ _ (by first | omega | (simp; done) | (simp; omega) | (simp [srcP]; omega))]) | (rw [Below.heap_alloc _ _ _ (by first | omega | (simp; done) | (simp; omega) | (simp [srcP]; omega))])))))
      (have hg2 := Lib.hid (show w2.heap[w1.heap.size]? = some (.cells #[.int .i64 r', .int .i64 c', .slice (some ⟨g1, 0, none⟩) T c1] 37 (0, 0)) from (hb2.block (w1.heap.size) (by first | omega | (simp; done) | (simp; omega) | (simp [srcP]; omega)) (by first | omega | (simp; done) | (simp; omega) | (simp [srcP]; omega))).trans (by repeat (first | (with_reducible exact rfl) | (with_reducible exact heap_alloc_new _ _) | (rw [heap_drew1]) | (rw [heap_drewN1]) | (rw [Below.heap_setCell _ _ _ _ (by first | omega | (simp; done) | (simp; omega) | (simp [srcP]; omega))]) | (rw [Below.heap_alloc _ _ _ (by first | omega | (simp; done) | (simp; omega) | (simp [srcP]; omega))])))))
      have hs2 := hb2.size
      have hbx2a : b < w2.heap.size := (by first | omega | (simp at hs2; omega))
      have HO2 := Lib.hid (Own.bx (w := (w1.alloc (.cells #[.int .i64 r', .int .i64 c', .slice (some ⟨g1, 0, none⟩) T c1] 37)).drew) (HO1.out.keep ((Below.refl _ _).alloc (Nat.le_refl _) _).drew) hb2 (show b < w.heap.size by omega))
      clear y0 y1 y2
      obtain ⟨q0, q1, q2, -⟩ := blk3 hg2.out
      clear hc2 hf2
      obtain ⟨z0, z1, z2, zf⟩ := blk3 hh2.out))
  go_wp2_with fail
  obtain ⟨s0, s1, s2, -⟩ := blk3 (blk3_2 (u := .slice (some ⟨g1, 0, none⟩) T c1) (blk3_1 (u := .int .i64 c') (blk3_0 (u := .int .i64 r') hh2.out)))
  (try simp only [Exit.inBlock, Exit.then]); refine bodyPost_ret (by simp [results, Try.results43, go_sem, s0, s1, s2]; try rfl) rfl ?_
  exact ⟨_, rfl, ⟨_, _, rfl, ⟨_, _, _, xs, rfl, by rw [HT.out]; omega, by rw [HT.out]; omega, ((((HO2.out.setLt (p := ⟨w0.heap.size, 0, none⟩) h0w _).setLt (p := ⟨w0.heap.size, 1, none⟩) h0w _).setLt (p := ⟨w0.heap.size, 2, none⟩) h0w _)).more (Nat.le_of_lt h0w)⟩⟩,
    ((((H0.out.trans ((hB2.mono (Nat.le_of_lt h0w)).below (show w0.heap.size ≤ b by omega)))).setCell (Nat.le_refl _) _).setCell (Nat.le_refl _) _).setCell (Nat.le_refl _) _⟩
set_option maxRecDepth 20000 in
set_option maxHeartbeats 4000000 in
theorem DrawApplyMask_any (A : Option Addr) (n c : Nat) (bs : List Int) (B : Nat) (w0 : World) (hb : RB w0 B A n bs) (hB0 : B ≤ w0.heap.size) (hn : n ≤ 4096) :
    Calls Try.prog 44 #[.slice A n c] w0 fun e w' =>
      ∃ u, e = .returned u ∧ (∃ (g : Value) (d : Int), u = .tuple #[g, .int .i64 d] ∧ DG w' w0.heap.size g) ∧ Below w0.heap.size w0 w' := by
  have HRB := Lib.hid hb
  clear hb
  go_enter Try.func44, Try.ntmps44
  go_wp2_with fail
  (go_at_call 48; go_call (l01From_any A n c bs _ B (HRB.out.below ((Below.refl B w0).alloc hB0 _)) (by simp; omega) hn) as e w ⟨rfl, hs, hb0⟩)
  have hI : (srcP 101 (w0.heap.size + 1) A n c bs B).I w := ⟨by simpa using hs, (HRB.out.below ((Below.refl B w0).alloc hB0 _)).below (hb0.mono (by simp; omega)), by omega, hn⟩
  have hB0w : Below w0.heap.size w0 w := ((Below.refl _ _).alloc (Nat.le_refl _) _).trans (hb0.mono (by simp))
  have hh0 := blk_below (heap_alloc_new w0 (.cells #[.int .i64 0, .int .i64 0, .slice none 0 0] 37)) hb0 (by simp)
  simp only [World.size_alloc]
  obtain ⟨b, hbd⟩ : ∃ b, w0.heap.size + 1 = b := ⟨_, rfl⟩
  rw [hbd] at hI ⊢
  have hbw := srcP_lt hI
  have h0b : w0.heap.size < b := by omega
  have h0w : w0.heap.size < w.heap.size := by omega
  have HI := Lib.hid hI
  have HH := Lib.hid hh0
  have H0 := Lib.hid hB0w
  clear hI hh0 hs hb0 hB0w hbd
  go_wp2_with fail
  (go_at_call 78; with_reducible refine (l15DrawGrid_any b A n c bs B _ (bxinv (B := w.heap.size) ?_ HI)).mono ?_; (focus (repeat (first | (with_reducible assumption) | (with_reducible exact BX.refl _ _ _) | (with_reducible refine BX.drewN ?_ _) | (with_reducible refine BX.drew ?_) | ((with_reducible refine BX.alloc ?_ ?_ _); rotate_left; (focus (first | (simp; done) | omega | (simp; omega) | (simp [srcP]; done) | (simp [srcP]; omega)))) | ((with_reducible refine BX.setCell ?_ ?_ ?_ _); rotate_left; (focus (first | (simp; done) | omega | (simp; omega) | (simp [srcP]; done) | (simp [srcP]; omega))); (focus (first | (simp; done) | omega | (simp; omega) | (simp [srcP]; done) | (simp [srcP]; omega))))))); rintro e1 w1 ⟨u1, rfl, hdg, hb1⟩; have hB1 : BX (srcP 101 b A n c bs B) w.heap.size w w1 := BX.then (by (repeat (first | (with_reducible assumption) | (with_reducible exact BX.refl _ _ _) | (with_reducible refine BX.drewN ?_ _) | (with_reducible refine BX.drew ?_) | ((with_reducible refine BX.alloc ?_ ?_ _); rotate_left; (focus (first | (simp; done) | omega | (simp; omega) | (simp [srcP]; done) | (simp [srcP]; omega)))) | ((with_reducible refine BX.setCell ?_ ?_ ?_ _); rotate_left; (focus (first | (simp; done) | omega | (simp; omega) | (simp [srcP]; done) | (simp [srcP]; omega))); (focus (first | (simp; done) | omega | (simp; omega) | (simp [srcP]; done) | (simp [srcP]; omega))))))) (by first | omega | (simp; done) | (simp; omega)) hb1; have hc1 := bxcell hb1; have hf1 := bxfrozen hb1; simp only [srcP_b] at hc1 hf1)
  obtain ⟨r', c', v', xs, rfl, hx1, hx2, ho1⟩ := hdg
  (have hh1 := Lib.hid (show w1.heap[w0.heap.size]? = some (.cells #[.int .i64 0, .int .i64 0, .slice none 0 0] 37 (0, 0)) from (hb1.block (w0.heap.size) (by first | omega | (simp; done) | (simp; omega) | (simp [srcP]; omega)) (by first | omega | (simp; done) | (simp; omega) | (simp [srcP]; omega))).trans (by repeat (first | (with_reducible exact HH.out) | (with_reducible exact heap_alloc_new _ _) | (rw [heap_drew1]) | (rw [heap_drewN1]) | (rw [Below.heap_setCell _ _ _ _ (by first | omega | (simp; done) | (simp; omega) | (simp [srcP]; omega))]) | (rw [Below.heap_alloc _ _ _ (by first | omega | (simp; done) | (simp; omega) | (simp [srcP]; omega))])))))
  have hs1 := hb1.size
  have hbx1 : b < w1.heap.size := by omega
  have hbx2 : b < w1.heap.size + 1 := by omega
  obtain ⟨T, hT⟩ : ∃ T, xs.length = T := ⟨_, rfl⟩
  rw [hT] at hx1 hx2
  obtain ⟨g1, c1, rfl, hg1, hg1w, -, -⟩ := ho1.row (by omega)
  rw [hT] at ho1 ⊢
  have HT := Lib.hid hT
  have HO1 := Lib.hid ho1
  have n02 : w1.heap.size ≠ w0.heap.size := by omega
  have hw01 : w0.heap.size < w1.heap.size := by omega
  clear hc1 hf1 hT ho1
  go_wp2_with fail
  obtain ⟨y0, y1, y2, -⟩ := blk3 (heap_alloc_new w1 (.cells #[.int .i64 r', .int .i64 c', .slice (some ⟨g1, 0, none⟩) T c1] 37))
  go_region_held3 (fun w' => w'.cell? ⟨w1.heap.size, 0, none⟩ = some (.int .i64 r') ∧ w'.cell? ⟨w1.heap.size, 1, none⟩ = some (.int .i64 c') ∧ w'.cell? ⟨w1.heap.size, 2, none⟩ = some (.slice (some ⟨g1, 0, none⟩) T c1))
    (first | (exact ⟨y0, y1, y2⟩) | (exact ⟨q0, q1, q2⟩) | (obtain ⟨q0, q1, q2, -⟩ := blk3 (blk_other (c := w0.heap.size) (k := 2) (u := .slice (some ⟨g1, 0, none⟩) T c1) (blk_other (c := w0.heap.size) (k := 1) (u := .int .i64 c') (blk_other (c := w0.heap.size) (k := 0) (u := .int .i64 r') hg4.out n02) n02) n02); exact ⟨q0, q1, q2⟩) | go_keep)
    (first
      | ((go_at_call 51; with_reducible refine (draw_any b A n c bs B (8) _ (bxinv (B := w.heap.size) ?_ HI) (by omega)).mono ?_; (focus (repeat (first | (with_reducible assumption) | (with_reducible exact BX.refl _ _ _) | (with_reducible refine BX.drewN ?_ _) | (with_reducible refine BX.drew ?_) | ((with_reducible refine BX.alloc ?_ ?_ _); rotate_left; (focus (first | (simp; done) | omega | (simp; omega) | (simp [srcP]; done) | (simp [srcP]; omega)))) | ((with_reducible refine BX.setCell ?_ ?_ ?_ _); rotate_left; (focus (first | (simp; done) | omega | (simp; omega) | (simp [srcP]; done) | (simp [srcP]; omega))); (focus (first | (simp; done) | omega | (simp; omega) | (simp [srcP]; done) | (simp [srcP]; omega))))))); rintro e2 w2 ⟨u2, rfl, ⟨r2, rfl, hr2a, hr2b⟩, hb2⟩; have hB2 : BX (srcP 101 b A n c bs B) w.heap.size w w2 := BX.then (by (repeat (first | (with_reducible assumption) | (with_reducible exact BX.refl _ _ _) | (with_reducible refine BX.drewN ?_ _) | (with_reducible refine BX.drew ?_) | ((with_reducible refine BX.alloc ?_ ?_ _); rotate_left; (focus (first | (simp; done) | omega | (simp; omega) | (simp [srcP]; done) | (simp [srcP]; omega)))) | ((with_reducible refine BX.setCell ?_ ?_ ?_ _); rotate_left; (focus (first | (simp; done) | omega | (simp; omega) | (simp [srcP]; done) | (simp [srcP]; omega))); (focus (first | (simp; done) | omega | (simp; omega) | (simp [srcP]; done) | (simp [srcP]; omega))))))) (by first | omega | (simp; done) | (simp; omega)) hb2; have hc2 := bxcell hb2; have hf2 := bxfrozen hb2; simp only [srcP_b] at hc2 hf2)
         (have hh2 := Lib.hid (show w2.heap[w0.heap.size]? = some (.cells #[.int .i64 0, .int .i64 0, .slice none 0 0] 37 (0, 0)) from (hb2.block (w0.heap.size) (by first | omega | (simp; done) | (simp; omega) | (simp [srcP]; omega)) (by first | omega | (simp; done) | (simp; omega) | (simp [srcP]; omega))).trans (by repeat (first | (with_reducible exact hh1.out) | (with_reducible exact heap_alloc_new _ _) | (rw [heap_drew1]) | (rw [heap_drewN1]) | (rw [Below.heap_setCell _ _ _ _ (by first | omega | (simp; done) | (simp; omega) | (simp [srcP]; omega))]) | (rw [Below.heap_alloc _ _ _ (by first | omega | (simp; done) | (simp; omega) | (simp [srcP]; omega))])))))
         (have hg2 := Lib.hid (show w2.heap[w1.heap.size]? = some (.cells #[.int .i64 r', .int .i64 c', .slice (some ⟨g1, 0, none⟩) T c1] 37 (0, 0)) from (hb2.block (w1.heap.size) (by first | omega | (simp; done) | (simp; omega) | (simp [srcP]; omega)) (by first | omega | (simp; done) | (simp; omega) | (simp [srcP]; omega))).trans (by repeat (first | (with_reducible exact rfl) | (with_reducible exact heap_alloc_new _ _) | (rw [heap_drew1]) | (rw [heap_drewN1]) | (rw [Below.heap_setCell _ _ _ _ (by first | omega | (simp; done) | (simp; omega) | (simp [srcP]; omega))]) | (rw [Below.heap_alloc _ _ _ (by first | omega | (simp; done) | (simp; omega) | (simp [srcP]; omega))])))))
         have hs2 := hb2.size
         have hbx2a : b < w2.heap.size := (by first | omega | (simp at hs2; omega))
         have hbx2b : w1.heap.size < w2.heap.size := (by first | omega | (simp at hs2; omega))
         have hbx2c : w0.heap.size < w2.heap.size := (by omega)
         have HO2 := Lib.hid (Own.bx (w := (w1.alloc (.cells #[.int .i64 r', .int .i64 c', .slice (some ⟨g1, 0, none⟩) T c1] 37)).drew) (HO1.out.keep ((Below.refl _ _).alloc (Nat.le_refl _) _).drew) hb2 (show b < w.heap.size by omega))
         clear y0 y1 y2
         obtain ⟨q0, q1, q2, -⟩ := blk3 hg2.out
         clear hc2 hf2)
      | ((go_at_call 51; with_reducible refine (draw_any b A n c bs B (24) _ (bxinv (B := w.heap.size) ?_ HI) (by omega)).mono ?_; (focus (repeat (first | (with_reducible assumption) | (with_reducible exact BX.refl _ _ _) | (with_reducible refine BX.drewN ?_ _) | (with_reducible refine BX.drew ?_) | ((with_reducible refine BX.alloc ?_ ?_ _); rotate_left; (focus (first | (simp; done) | omega | (simp; omega) | (simp [srcP]; done) | (simp [srcP]; omega)))) | ((with_reducible refine BX.setCell ?_ ?_ ?_ _); rotate_left; (focus (first | (simp; done) | omega | (simp; omega) | (simp [srcP]; done) | (simp [srcP]; omega))); (focus (first | (simp; done) | omega | (simp; omega) | (simp [srcP]; done) | (simp [srcP]; omega))))))); rintro e3 w3 ⟨u3, rfl, ⟨r3, rfl, hr3a, hr3b⟩, hb3⟩; have hB3 : BX (srcP 101 b A n c bs B) w.heap.size w w3 := BX.then (by (repeat (first | (with_reducible assumption) | (with_reducible exact BX.refl _ _ _) | (with_reducible refine BX.drewN ?_ _) | (with_reducible refine BX.drew ?_) | ((with_reducible refine BX.alloc ?_ ?_ _); rotate_left; (focus (first | (simp; done) | omega | (simp; omega) | (simp [srcP]; done) | (simp [srcP]; omega)))) | ((with_reducible refine BX.setCell ?_ ?_ ?_ _); rotate_left; (focus (first | (simp; done) | omega | (simp; omega) | (simp [srcP]; done) | (simp [srcP]; omega))); (focus (first | (simp; done) | omega | (simp; omega) | (simp [srcP]; done) | (simp [srcP]; omega))))))) (by first | omega | (simp; done) | (simp; omega)) hb3; have hc3 := bxcell hb3; have hf3 := bxfrozen hb3; simp only [srcP_b] at hc3 hf3)
         (have hh3 := Lib.hid (show w3.heap[w0.heap.size]? = some (.cells #[.int .i64 0, .int .i64 0, .slice none 0 0] 37 (0, 0)) from (hb3.block (w0.heap.size) (by first | omega | (simp; done) | (simp; omega) | (simp [srcP]; omega)) (by first | omega | (simp; done) | (simp; omega) | (simp [srcP]; omega))).trans (by repeat (first | (with_reducible exact hh2.out) | (with_reducible exact heap_alloc_new _ _) | (rw [heap_drew1]) | (rw [heap_drewN1]) | (rw [Below.heap_setCell _ _ _ _ (by first | omega | (simp; done) | (simp; omega) | (simp [srcP]; omega))]) | (rw [Below.heap_alloc _ _ _ (by first | omega | (simp; done) | (simp; omega) | (simp [srcP]; omega))])))))
         (have hg3 := Lib.hid (show w3.heap[w1.heap.size]? = some (.cells #[.int .i64 r', .int .i64 c', .slice (some ⟨g1, 0, none⟩) T c1] 37 (0, 0)) from (hb3.block (w1.heap.size) (by first | omega | (simp; done) | (simp; omega) | (simp [srcP]; omega)) (by first | omega | (simp; done) | (simp; omega) | (simp [srcP]; omega))).trans (by repeat (first | (with_reducible exact hg2.out) | (with_reducible exact heap_alloc_new _ _) | (rw [heap_drew1]) | (rw [heap_drewN1]) | (rw [Below.heap_setCell _ _ _ _ (by first | omega | (simp; done) | (simp; omega) | (simp [srcP]; omega))]) | (rw [Below.heap_alloc _ _ _ (by first | omega | (simp; done) | (simp; omega) | (simp [srcP]; omega))])))))
         have hs3 := hb3.size
         have hbx3a : b < w3.heap.size := (by first | omega | (simp at hs3; omega))
         have hbx3b : w1.heap.size < w3.heap.size := (by omega)
         have hbx3c : w0.heap.size < w3.heap.size := (by omega)
         have HO3 := Lib.hid (Own.bx' hb3 (by exact HO2.out) (show b < w.heap.size by omega))
         clear q0 q1 q2
         obtain ⟨q0, q1, q2, -⟩ := blk3 hg3.out
         clear hc3 hf3)
      | ((go_at_call 51; with_reducible refine (draw_any b A n c bs B (24) _ (bxinv (B := w.heap.size) ?_ HI) (by omega)).mono ?_; (focus (repeat (first | (with_reducible assumption) | (with_reducible exact BX.refl _ _ _) | (with_reducible refine BX.drewN ?_ _) | (with_reducible refine BX.drew ?_) | ((with_reducible refine BX.alloc ?_ ?_ _); rotate_left; (focus (first | (simp; done) | omega | (simp; omega) | (simp [srcP]; done) | (simp [srcP]; omega)))) | ((with_reducible refine BX.setCell ?_ ?_ ?_ _); rotate_left; (focus (first | (simp; done) | omega | (simp; omega) | (simp [srcP]; done) | (simp [srcP]; omega))); (focus (first | (simp; done) | omega | (simp; omega) | (simp [srcP]; done) | (simp [srcP]; omega))))))); rintro e4 w4 ⟨u4, rfl, ⟨r4, rfl, hr4a, hr4b⟩, hb4⟩; have hB4 : BX (srcP 101 b A n c bs B) w.heap.size w w4 := BX.then (by (repeat (first | (with_reducible assumption) | (with_reducible exact BX.refl _ _ _) | (with_reducible refine BX.drewN ?_ _) | (with_reducible refine BX.drew ?_) | ((with_reducible refine BX.alloc ?_ ?_ _); rotate_left; (focus (first | (simp; done) | omega | (simp; omega) | (simp [srcP]; done) | (simp [srcP]; omega)))) | ((with_reducible refine BX.setCell ?_ ?_ ?_ _); rotate_left; (focus (first | (simp; done) | omega | (simp; omega) | (simp [srcP]; done) | (simp [srcP]; omega))); (focus (first | (simp; done) | omega | (simp; omega) | (simp [srcP]; done) | (simp [srcP]; omega))))))) (by first | omega | (simp; done) | (simp; omega)) hb4; have hc4 := bxcell hb4; have hf4 := bxfrozen hb4; simp only [srcP_b] at hc4 hf4)
         (have hh4 := Lib.hid (show w4.heap[w0.heap.size]? = some (.cells #[.int .i64 0, .int .i64 0, .slice none 0 0] 37 (0, 0)) from (hb4.block (w0.heap.size) (by first | omega | (simp; done) | (simp; omega) | (simp [srcP]; omega)) (by first | omega | (simp; done) | (simp; omega) | (simp [srcP]; omega))).trans (by repeat (first | (with_reducible exact hh3.out) | (with_reducible exact heap_alloc_new _ _) | (rw [heap_drew1]) | (rw [heap_drewN1]) | (rw [Below.heap_setCell _ _ _ _ (by first | omega | (simp; done) | (simp; omega) | (simp [srcP]; omega))]) | (rw [Below.heap_alloc _ _ _ (by first | omega | (simp; done) | (simp; omega) | (simp [srcP]; omega))])))))
         (have hg4 := Lib.hid (show w4.heap[w1.heap.size]? = some (.cells #[.int .i64 r', .int .i64 c', .slice (some ⟨g1, 0, none⟩) T c1] 37 (0, 0)) from (hb4.block (w1.heap.size) (by first | omega | (simp; done) | (simp; omega) | (simp [srcP]; omega)) (by first | omega | (simp; done) | (simp; omega) | (simp [srcP]; omega))).trans (by repeat (first | (with_reducible exact hg3.out) | (with_reducible exact heap_alloc_new _ _) | (rw [heap_drew1]) | (rw [heap_drewN1]) | (rw [Below.heap_setCell _ _ _ _ (by first | omega | (simp; done) | (simp; omega) | (simp [srcP]; omega))]) | (rw [Below.heap_alloc _ _ _ (by first | omega | (simp; done) | (simp; omega) | (simp [srcP]; omega))])))))
         have hs4 := hb4.size
         have hbx4a : b < w4.heap.size := (by first | omega | (simp at hs4; omega))
         have HO4 := Lib.hid (Own.bx' hb4 (by exact HO3.out) (show b < w.heap.size by omega))
         clear q0 q1 q2
         obtain ⟨q0, q1, q2, -⟩ := blk3 hg4.out
         clear hc4 hf4
         obtain ⟨z0, z1, z2, zf⟩ := blk3 hh4.out))
  go_wp2_with fail
  obtain ⟨s0, s1, s2, -⟩ := blk3 (blk3_2 (u := .slice (some ⟨g1, 0, none⟩) T c1) (blk3_1 (u := .int .i64 c') (blk3_0 (u := .int .i64 r') hh4.out)))
  (try simp only [Exit.inBlock, Exit.then]); refine bodyPost_ret (by simp [results, Try.results44, go_sem, s0, s1, s2]; try rfl) rfl ?_
  exact ⟨_, rfl, ⟨_, _, rfl, ⟨_, _, _, xs, rfl, by rw [HT.out]; omega, by rw [HT.out]; omega, ((((HO4.out.setLt (p := ⟨w0.heap.size, 0, none⟩) h0w _).setLt (p := ⟨w0.heap.size, 1, none⟩) h0w _).setLt (p := ⟨w0.heap.size, 2, none⟩) h0w _)).more (Nat.le_of_lt h0w)⟩⟩,
    ((((H0.out.trans ((hB4.mono (Nat.le_of_lt h0w)).below (show w0.heap.size ≤ b by omega)))).setCell (Nat.le_refl _) _).setCell (Nat.le_refl _) _).setCell (Nat.le_refl _) _⟩
end Go.Proofs.Yteghpageamehkaa
