/-
  What the laws of sampling draw: pictures and a number of lines. Printed by gen/c26dv.py.
-/
import Derived.Test.YtflpllmbpfdnjaaDq
import Derived.Test.YtflpllmbpfdnjaaDm
import Derived.Test.YtflpllmbpfdnjaaDrB
import Derived.Test.YtflpllmbpfdnjaaMSa
import Derived.Test.YtflpllmbpfdnjaaSmP
import Derived.Deep.RegionHeld3
namespace Go.Proofs.Ytflpllmbpfdnjaa
set_option linter.unusedSimpArgs false
open Go.RowKit

theorem blk4q {w : World} {b t : Nat} {x0 x1 x2 x3 : Value} (h : w.heap[b]? = some (.cells #[x0, x1, x2, x3] t (0, 0))) :
    w.cell? ⟨b, 0, none⟩ = some x0 ∧ w.cell? ⟨b, 1, none⟩ = some x1 ∧ w.cell? ⟨b, 2, none⟩ = some x2 ∧ w.cell? ⟨b, 3, none⟩ = some x3 ∧ ∀ k, w.frozen? ⟨b, k, none⟩ = false := by
  refine ⟨?_, ?_, ?_, ?_, fun k => ?_⟩ <;> simp [World.cell?, World.frozen?, h]
theorem res4q {w : World} {b t : Nat} {x0 x1 x2 x3 : Value} (h : w.heap[b]? = some (.cells #[x0, x1, x2, x3] t (0, 0))) (y0 y1 y2 y3 : Value) :
    (((((w.setCell ⟨b, 0, none⟩ y0).setCell ⟨b, 1, none⟩ y1).setCell ⟨b, 2, none⟩ y2).setCell ⟨b, 3, none⟩ y3)).heap[b]? = some (.cells #[y0, y1, y2, y3] t (0, 0)) := by
  have h0 := blk3_set (k := 0) (u := y0) h
  have h1 := blk3_set (k := 1) (u := y1) h0
  have h2 := blk3_set (k := 2) (u := y2) h1
  have h3 := blk3_set (k := 3) (u := y3) h2
  simpa using h3
theorem QP.at4 {s : SP} {w0 w : World} {g0 g1 t1 : Nat} {o0 : Obj} {x0 x1 x2 x3 : Int} (h : QP s w0 g0 g1 o0 t1 [x0, x1, x2, x3] w) :
    w.cell? ⟨g1, 0, none⟩ = some (.int .i64 x0) ∧ w.cell? ⟨g1, 1, none⟩ = some (.int .i64 x1) ∧ w.cell? ⟨g1, 2, none⟩ = some (.int .i64 x2) ∧ w.cell? ⟨g1, 3, none⟩ = some (.int .i64 x3) ∧ ∀ k, w.frozen? ⟨g1, k, none⟩ = false :=
  blk4q (show w.heap[g1]? = some (.cells #[.int .i64 x0, .int .i64 x1, .int .i64 x2, .int .i64 x3] t1 (0, 0)) from h.k1)
def PS4 (s : SP) (w0 : World) (g0 g1 : Nat) (o0 : Obj) (t1 : Nat) (w : World) : Prop := ∃ x0 x1 x2 x3 : Int, QP s w0 g0 g1 o0 t1 [x0, x1, x2, x3] w

set_option maxRecDepth 20000 in
set_option maxHeartbeats 8000000 in
theorem l26DrawSampling_any (b : Nat) (A : Option Addr) (n c : Nat) (bs : List Int) (B : Nat) (r cc : Int) (w : World) (hI : (srcP 124 b A n c bs B).I w) :
    Calls Try.prog 124 #[.pointer (some ⟨b, 0, none⟩), .int .i64 r, .int .i64 cc] w fun e w' =>
      ∃ u, e = .returned u ∧ (∃ x0 x1 x2 x3 : Int, u = .agg #[.int .i64 x0, .int .i64 x1, .int .i64 x2, .int .i64 x3]) ∧ BX (srcP 124 b A n c bs B) w.heap.size w w' := by
  have hbw := srcP_lt hI
  have hbw0 : b < w.heap.size + 1 := by omega
  have HI := Lib.hid hI
  clear hI
  go_enter Try.func124, Try.ntmps124
  go_wp2_with fail
  (go_at_call 79; with_reducible refine (draw_any b A n c bs B (4) _ (bxinv (B := w.heap.size) ?_ HI) (by omega)).mono ?_; (focus (repeat (first | (with_reducible assumption) | (with_reducible exact BX.refl _ _ _) | (with_reducible refine BX.drewN ?_ _) | (with_reducible refine BX.drew ?_) | ((with_reducible refine BX.alloc ?_ ?_ _); rotate_left; (focus (first | (simp; done) | omega | (simp; omega) | (simp [srcP]; done) | (simp [srcP]; omega)))) | ((with_reducible refine BX.setCell ?_ ?_ ?_ _); rotate_left; (focus (first | (simp; done) | omega | (simp; omega) | (simp [srcP]; done) | (simp [srcP]; omega))); (focus (first | (simp; done) | omega | (simp; omega) | (simp [srcP]; done) | (simp [srcP]; omega))))))); rintro e1 w1 ⟨u1, rfl, ⟨r1, rfl, hr1a, hr1b⟩, hb1⟩; have hB1 : BX (srcP 124 b A n c bs B) w.heap.size w w1 := BX.then (by (repeat (first | (with_reducible assumption) | (with_reducible exact BX.refl _ _ _) | (with_reducible refine BX.drewN ?_ _) | (with_reducible refine BX.drew ?_) | ((with_reducible refine BX.alloc ?_ ?_ _); rotate_left; (focus (first | (simp; done) | omega | (simp; omega) | (simp [srcP]; done) | (simp [srcP]; omega)))) | ((with_reducible refine BX.setCell ?_ ?_ ?_ _); rotate_left; (focus (first | (simp; done) | omega | (simp; omega) | (simp [srcP]; done) | (simp [srcP]; omega))); (focus (first | (simp; done) | omega | (simp; omega) | (simp [srcP]; done) | (simp [srcP]; omega))))))) (by first | omega | (simp; done) | (simp; omega)) hb1; have hc1 := bxcell hb1; have hf1 := bxfrozen hb1; simp only [srcP_b] at hc1 hf1; have hz1a : w.heap.size < w1.heap.size := (by have := hb1.size; first | omega | (simp at this; omega)))
  (have hh1 := Lib.hid (show w1.heap[w.heap.size]? = some (.cells #[.int .i64 0, .int .i64 0, .int .i64 0, .int .i64 0] 36 (0, 0)) from (hb1.block (w.heap.size) (by first | omega | (simp; done) | (simp; omega) | (simp [srcP]; omega)) (by first | omega | (simp; done) | (simp; omega) | (simp [srcP]; omega))).trans (by repeat (first | (with_reducible exact rfl) | (with_reducible exact heap_alloc_new _ _) | (rw [heap_drew1]) | (rw [heap_drewN1]) | (rw [Below.heap_setCell _ _ _ _ (by first | omega | (simp; done) | (simp; omega) | (simp [srcP]; omega))]) | (rw [Below.heap_alloc _ _ _ (by first | omega | (simp; done) | (simp; omega) | (simp [srcP]; omega))])))))
  have hp1 : w1.heap[(w.alloc (.cells #[.int .i64 0, .int .i64 0, .int .i64 0, .int .i64 0] 36)).heap.size]? = some (.cells #[.int .i64 (0), .int .i64 (1), .int .i64 (40), .int .i64 (120)] 2 (0, 0)) := (hb1.block (w.alloc (.cells #[.int .i64 0, .int .i64 0, .int .i64 0, .int .i64 0] 36)).heap.size (by simp) (by simp; omega)).trans (heap_alloc_new _ _)
  obtain ⟨v0, R1, hv1, hR1, hck1⟩ : ∃ (v : Int) (R : Nat), r1 = R ∧ R < 4 ∧ w1.cell? ⟨(w.alloc (.cells #[.int .i64 0, .int .i64 0, .int .i64 0, .int .i64 0] 36)).heap.size, R, none⟩ = some (.int .i64 v) := by
    rcases (show r1 = 0 ∨ r1 = 1 ∨ r1 = 2 ∨ r1 = 3 by omega) with rfl | rfl | rfl | rfl
    · exact ⟨0, 0, rfl, by decide, (blk_cell hp1 0).trans rfl⟩
    · exact ⟨1, 1, rfl, by decide, (blk_cell hp1 1).trans rfl⟩
    · exact ⟨40, 2, rfl, by decide, (blk_cell hp1 2).trans rfl⟩
    · exact ⟨120, 3, rfl, by decide, (blk_cell hp1 3).trans rfl⟩
  subst hv1
  clear hp1
  have hs1 := hb1.size
  simp only [World.size_alloc] at hs1 hck1
  have hz1 : w.heap.size < w1.heap.size := by omega
  have hbw1 : b < w1.heap.size := by omega
  have HP5 : Hid (QP (srcP 124 b A n c bs B) w w.heap.size w1.heap.size (.cells #[.int .i64 0, .int .i64 0, .int .i64 0, .int .i64 0] 36 (0, 0)) 36 [r, cc, 128, v0] (w1.alloc (.cells #[.int .i64 r, .int .i64 cc, .int .i64 128, .int .i64 v0] 36))) :=
    Lib.hid ⟨⟨hbw, Nat.le_refl _, hz1, by simp⟩, hB1.alloc (Nat.le_of_lt hz1) _, hB1.alloc (Nat.le_of_lt hz1) _ |>.inv HI.out, blk_alloc hh1.out hz1, heap_alloc_new _ _⟩
  clear hB1 hb1 hh1 hc1 hf1 hs1
  go_upto_region 2 with fail
  obtain ⟨g1, hg1⟩ : ∃ g1, w1.heap.size = g1 := ⟨_, rfl⟩
  rw [hg1] at HP5 ⊢
  generalize w1.alloc (.cells #[.int .i64 r, .int .i64 cc, .int .i64 128, .int .i64 v0] 36) = w6 at *
  clear hck1 hz1 hbw1 hg1
  go_wp2_with fail
  go_at_call 79; with_reducible refine (draw_any b A n c bs B (24) _ ?_ (by omega)).mono ?_; (focus (first | exact HP5.out.inv | exact HP5.out.drew.inv | exact (HP5.out.alloc _).drew.inv | exact (HP5.out.alloc _).inv)); rintro e7 w7 ⟨u7, rfl, ⟨r7, rfl, hr7a, hr7b⟩, hb7⟩; (first | have HP7 := Lib.hid (HP5.out.step hb7) | have HP7 := Lib.hid (HP5.out.drew.step hb7) | have HP7 := Lib.hid ((HP5.out.alloc _).step hb7) | have HP7 := Lib.hid ((HP5.out.alloc _).drew.step hb7))
  clear hb7
  have hgw : g1 < w7.heap.size := HP7.out.sz.2.2.2
  have hbw7 : b < w7.heap.size + 1 := by have := HP7.out.sz; simp only [srcP_b] at this; omega
  have hbw7c : b < w7.heap.size := by have := HP7.out.sz; simp only [srcP_b] at this; omega
  rcases (show r7 = 0 ∨ r7 = 1 ∨ r7 = 2 ∨ (¬ r7 = 0 ∧ ¬ r7 = 1 ∧ ¬ r7 = 2) by omega) with rfl | rfl | rfl | ⟨n0, n1, n2⟩
  · go_wp2_with fail
    go_at_call 79; with_reducible refine (draw_any b A n c bs B (3) _ ?_ (by omega)).mono ?_; (focus (first | exact HP7.out.inv | exact HP7.out.drew.inv | exact (HP7.out.alloc _).drew.inv | exact (HP7.out.alloc _).inv)); rintro e8 w8 ⟨u8, rfl, ⟨r8, rfl, hr8a, hr8b⟩, hb8⟩; (first | have HP8 := Lib.hid (HP7.out.step hb8) | have HP8 := Lib.hid (HP7.out.drew.step hb8) | have HP8 := Lib.hid ((HP7.out.alloc _).step hb8) | have HP8 := Lib.hid ((HP7.out.alloc _).drew.step hb8))
    have hp8 : w8.heap[w7.heap.size]? = some (.cells #[.int .i64 (0), .int .i64 (3500), .int .i64 (3501)] 2 (0, 0)) := (hb8.block w7.heap.size (by simp) (by simp; omega)).trans (heap_alloc_new _ _)
    obtain ⟨v, R8, hv8, hR8, hck8⟩ : ∃ (v : Int) (R : Nat), r8 = R ∧ R < 3 ∧ w8.cell? ⟨w7.heap.size, R, none⟩ = some (.int .i64 v) := by
      rcases (show r8 = 0 ∨ r8 = 1 ∨ r8 = 2 by omega) with rfl | rfl | rfl
      · exact ⟨0, 0, rfl, by decide, (blk_cell hp8 0).trans rfl⟩
      · exact ⟨3500, 1, rfl, by decide, (blk_cell hp8 1).trans rfl⟩
      · exact ⟨3501, 2, rfl, by decide, (blk_cell hp8 2).trans rfl⟩
    subst hv8
    clear hp8
    obtain ⟨fe0, fe1, fe2, fe3, ff⟩ := HP8.out.at4
    go_upto_region 9 with fail
    refine gen_world (P := fun W' => Code.wp _ _ _ _ W') (Q := fun W' => PS4 (srcP 124 b A n c bs B) w w.heap.size g1 (.cells #[.int .i64 0, .int .i64 0, .int .i64 0, .int .i64 0] 36 (0, 0)) 36 W') ?_ ?_
    · first | exact ⟨v, cc, 128, v0, HP8.out.set 0 _⟩
    · intro wz HSz
      go_upto_region 9 with fail
      obtain ⟨x0, x1, x2, x3, hqz⟩ := HSz
      have HPz := Lib.hid hqz
      clear hqz
      obtain ⟨d0, d1, d2, d3, -⟩ := blk4q (show wz.heap[g1]? = some (.cells #[.int .i64 x0, .int .i64 x1, .int .i64 x2, .int .i64 x3] 36 (0, 0)) from HPz.out.k1)
      obtain ⟨z0, z1, z2, z3, zf⟩ := blk4q HPz.out.k0
      go_wp2_with fail
      obtain ⟨s0, s1, s2, s3, -⟩ := blk4q (res4q HPz.out.k0 (.int .i64 x0) (.int .i64 x1) (.int .i64 x2) (.int .i64 x3))
      (try simp only [Exit.inBlock, Exit.then]); refine bodyPost_ret (by simp [results, Try.results124, go_sem, s0, s1, s2, s3]; try rfl) rfl ?_
      exact ⟨_, rfl, ⟨x0, x1, x2, x3, rfl⟩, (bxset (k := 3) (u := .int .i64 x3) (bxset (k := 2) (u := .int .i64 x2) (bxset (k := 1) (u := .int .i64 x1) (bxset (k := 0) (u := .int .i64 x0) HPz.out.bx hbw (Nat.le_refl _)) hbw (Nat.le_refl _)) hbw (Nat.le_refl _)) hbw (Nat.le_refl _))⟩

  · go_wp2_with fail
    go_at_call 79; with_reducible refine (draw_any b A n c bs B (4) _ ?_ (by omega)).mono ?_; (focus (first | exact HP7.out.inv | exact HP7.out.drew.inv | exact (HP7.out.alloc _).drew.inv | exact (HP7.out.alloc _).inv)); rintro e8 w8 ⟨u8, rfl, ⟨r8, rfl, hr8a, hr8b⟩, hb8⟩; (first | have HP8 := Lib.hid (HP7.out.step hb8) | have HP8 := Lib.hid (HP7.out.drew.step hb8) | have HP8 := Lib.hid ((HP7.out.alloc _).step hb8) | have HP8 := Lib.hid ((HP7.out.alloc _).drew.step hb8))
    have hp8 : w8.heap[w7.heap.size]? = some (.cells #[.int .i64 (-1), .int .i64 (0), .int .i64 (256), .int .i64 (257)] 2 (0, 0)) := (hb8.block w7.heap.size (by simp) (by simp; omega)).trans (heap_alloc_new _ _)
    obtain ⟨v, R8, hv8, hR8, hck8⟩ : ∃ (v : Int) (R : Nat), r8 = R ∧ R < 4 ∧ w8.cell? ⟨w7.heap.size, R, none⟩ = some (.int .i64 v) := by
      rcases (show r8 = 0 ∨ r8 = 1 ∨ r8 = 2 ∨ r8 = 3 by omega) with rfl | rfl | rfl | rfl
      · exact ⟨-1, 0, rfl, by decide, (blk_cell hp8 0).trans rfl⟩
      · exact ⟨0, 1, rfl, by decide, (blk_cell hp8 1).trans rfl⟩
      · exact ⟨256, 2, rfl, by decide, (blk_cell hp8 2).trans rfl⟩
      · exact ⟨257, 3, rfl, by decide, (blk_cell hp8 3).trans rfl⟩
    subst hv8
    clear hp8
    obtain ⟨fe0, fe1, fe2, fe3, ff⟩ := HP8.out.at4
    go_upto_region 9 with fail
    refine gen_world (P := fun W' => Code.wp _ _ _ _ W') (Q := fun W' => PS4 (srcP 124 b A n c bs B) w w.heap.size g1 (.cells #[.int .i64 0, .int .i64 0, .int .i64 0, .int .i64 0] 36 (0, 0)) 36 W') ?_ ?_
    · first | exact ⟨r, cc, v, v0, HP8.out.set 2 _⟩
    · intro wz HSz
      go_upto_region 9 with fail
      obtain ⟨x0, x1, x2, x3, hqz⟩ := HSz
      have HPz := Lib.hid hqz
      clear hqz
      obtain ⟨d0, d1, d2, d3, -⟩ := blk4q (show wz.heap[g1]? = some (.cells #[.int .i64 x0, .int .i64 x1, .int .i64 x2, .int .i64 x3] 36 (0, 0)) from HPz.out.k1)
      obtain ⟨z0, z1, z2, z3, zf⟩ := blk4q HPz.out.k0
      go_wp2_with fail
      obtain ⟨s0, s1, s2, s3, -⟩ := blk4q (res4q HPz.out.k0 (.int .i64 x0) (.int .i64 x1) (.int .i64 x2) (.int .i64 x3))
      (try simp only [Exit.inBlock, Exit.then]); refine bodyPost_ret (by simp [results, Try.results124, go_sem, s0, s1, s2, s3]; try rfl) rfl ?_
      exact ⟨_, rfl, ⟨x0, x1, x2, x3, rfl⟩, (bxset (k := 3) (u := .int .i64 x3) (bxset (k := 2) (u := .int .i64 x2) (bxset (k := 1) (u := .int .i64 x1) (bxset (k := 0) (u := .int .i64 x0) HPz.out.bx hbw (Nat.le_refl _)) hbw (Nat.le_refl _)) hbw (Nat.le_refl _)) hbw (Nat.le_refl _))⟩

  · go_wp2_with fail
    go_at_call 79; with_reducible refine (draw_any b A n c bs B (3) _ ?_ (by omega)).mono ?_; (focus (first | exact HP7.out.inv | exact HP7.out.drew.inv | exact (HP7.out.alloc _).drew.inv | exact (HP7.out.alloc _).inv)); rintro e8 w8 ⟨u8, rfl, ⟨r8, rfl, hr8a, hr8b⟩, hb8⟩; (first | have HP8 := Lib.hid (HP7.out.step hb8) | have HP8 := Lib.hid (HP7.out.drew.step hb8) | have HP8 := Lib.hid ((HP7.out.alloc _).step hb8) | have HP8 := Lib.hid ((HP7.out.alloc _).drew.step hb8))
    have hp8 : w8.heap[w7.heap.size]? = some (.cells #[.int .i64 (-1), .int .i64 (256), .int .i64 (257)] 2 (0, 0)) := (hb8.block w7.heap.size (by simp) (by simp; omega)).trans (heap_alloc_new _ _)
    obtain ⟨v, R8, hv8, hR8, hck8⟩ : ∃ (v : Int) (R : Nat), r8 = R ∧ R < 3 ∧ w8.cell? ⟨w7.heap.size, R, none⟩ = some (.int .i64 v) := by
      rcases (show r8 = 0 ∨ r8 = 1 ∨ r8 = 2 by omega) with rfl | rfl | rfl
      · exact ⟨-1, 0, rfl, by decide, (blk_cell hp8 0).trans rfl⟩
      · exact ⟨256, 1, rfl, by decide, (blk_cell hp8 1).trans rfl⟩
      · exact ⟨257, 2, rfl, by decide, (blk_cell hp8 2).trans rfl⟩
    subst hv8
    clear hp8
    obtain ⟨fe0, fe1, fe2, fe3, ff⟩ := HP8.out.at4
    go_upto_region 9 with fail
    refine gen_world (P := fun W' => Code.wp _ _ _ _ W') (Q := fun W' => PS4 (srcP 124 b A n c bs B) w w.heap.size g1 (.cells #[.int .i64 0, .int .i64 0, .int .i64 0, .int .i64 0] 36 (0, 0)) 36 W') ?_ ?_
    · first | exact ⟨r, cc, 128, v, HP8.out.set 3 _⟩
    · intro wz HSz
      go_upto_region 9 with fail
      obtain ⟨x0, x1, x2, x3, hqz⟩ := HSz
      have HPz := Lib.hid hqz
      clear hqz
      obtain ⟨d0, d1, d2, d3, -⟩ := blk4q (show wz.heap[g1]? = some (.cells #[.int .i64 x0, .int .i64 x1, .int .i64 x2, .int .i64 x3] 36 (0, 0)) from HPz.out.k1)
      obtain ⟨z0, z1, z2, z3, zf⟩ := blk4q HPz.out.k0
      go_wp2_with fail
      obtain ⟨s0, s1, s2, s3, -⟩ := blk4q (res4q HPz.out.k0 (.int .i64 x0) (.int .i64 x1) (.int .i64 x2) (.int .i64 x3))
      (try simp only [Exit.inBlock, Exit.then]); refine bodyPost_ret (by simp [results, Try.results124, go_sem, s0, s1, s2, s3]; try rfl) rfl ?_
      exact ⟨_, rfl, ⟨x0, x1, x2, x3, rfl⟩, (bxset (k := 3) (u := .int .i64 x3) (bxset (k := 2) (u := .int .i64 x2) (bxset (k := 1) (u := .int .i64 x1) (bxset (k := 0) (u := .int .i64 x0) HPz.out.bx hbw (Nat.le_refl _)) hbw (Nat.le_refl _)) hbw (Nat.le_refl _)) hbw (Nat.le_refl _))⟩

  · have HSz : PS4 (srcP 124 b A n c bs B) w w.heap.size g1 (.cells #[.int .i64 0, .int .i64 0, .int .i64 0, .int .i64 0] 36 (0, 0)) 36 w7 := ⟨r, cc, 128, v0, HP7.out⟩
    go_upto_region 9 with fail
    obtain ⟨x0, x1, x2, x3, hqz⟩ := HSz
    have HPz := Lib.hid hqz
    clear hqz
    obtain ⟨d0, d1, d2, d3, -⟩ := blk4q (show w7.heap[g1]? = some (.cells #[.int .i64 x0, .int .i64 x1, .int .i64 x2, .int .i64 x3] 36 (0, 0)) from HPz.out.k1)
    obtain ⟨z0, z1, z2, z3, zf⟩ := blk4q HPz.out.k0
    go_wp2_with fail
    obtain ⟨s0, s1, s2, s3, -⟩ := blk4q (res4q HPz.out.k0 (.int .i64 x0) (.int .i64 x1) (.int .i64 x2) (.int .i64 x3))
    (try simp only [Exit.inBlock, Exit.then]); refine bodyPost_ret (by simp [results, Try.results124, go_sem, s0, s1, s2, s3]; try rfl) rfl ?_
    exact ⟨_, rfl, ⟨x0, x1, x2, x3, rfl⟩, (bxset (k := 3) (u := .int .i64 x3) (bxset (k := 2) (u := .int .i64 x2) (bxset (k := 1) (u := .int .i64 x1) (bxset (k := 0) (u := .int .i64 x0) HPz.out.bx hbw (Nat.le_refl _)) hbw (Nat.le_refl _)) hbw (Nat.le_refl _)) hbw (Nat.le_refl _))⟩


/-- What a raster that is drawn looks like. -/
def DRs (w : World) (B : Nat) (u : Value) : Prop := ∃ (r c : Int) (v : Value) (xs : List Int), u = .agg #[.int .i64 r, .int .i64 c, v] ∧ 1 ≤ xs.length ∧ xs.length ≤ 1700 ∧ Own w B v xs

set_option maxRecDepth 20000 in
set_option maxHeartbeats 4000000 in
theorem l20Draw_any (b : Nat) (A : Option Addr) (n c : Nat) (bs : List Int) (B : Nat) (w : World) (hI : (srcP 124 b A n c bs B).I w) :
    Calls Try.prog 122 #[.pointer (some ⟨b, 0, none⟩)] w fun e w' =>
      ∃ u, e = .returned u ∧ DRs w' w.heap.size u ∧ BX (srcP 124 b A n c bs B) w.heap.size w w' := by
  obtain ⟨i0, hi⟩ := info_own' info_i64s
  have HI0 := Lib.hid (And.intro i0.bytes.le_refl hi)
  have hbw := srcP_lt hI
  have hbw0 : b < w.heap.size + 1 := by omega
  have HI := Lib.hid hI
  clear hI hi
  go_enter Try.func122, Try.ntmps122
  go_wp2_with fail
  (go_at_call 79; with_reducible refine (draw_any b A n c bs B (7) _ (bxinv (B := w.heap.size) ?_ HI) (by omega)).mono ?_; (focus (repeat (first | (with_reducible assumption) | (with_reducible exact BX.refl _ _ _) | (with_reducible refine BX.drewN ?_ _) | (with_reducible refine BX.drew ?_) | ((with_reducible refine BX.alloc ?_ ?_ _); rotate_left; (focus (first | (simp; done) | omega | (simp; omega) | (simp [srcP]; done) | (simp [srcP]; omega)))) | ((with_reducible refine BX.setCell ?_ ?_ ?_ _); rotate_left; (focus (first | (simp; done) | omega | (simp; omega) | (simp [srcP]; done) | (simp [srcP]; omega))); (focus (first | (simp; done) | omega | (simp; omega) | (simp [srcP]; done) | (simp [srcP]; omega))))))); rintro e1 w1 ⟨u1, rfl, ⟨r1, rfl, hr1a, hr1b⟩, hb1⟩; have hB1 : BX (srcP 124 b A n c bs B) w.heap.size w w1 := BX.then (by (repeat (first | (with_reducible assumption) | (with_reducible exact BX.refl _ _ _) | (with_reducible refine BX.drewN ?_ _) | (with_reducible refine BX.drew ?_) | ((with_reducible refine BX.alloc ?_ ?_ _); rotate_left; (focus (first | (simp; done) | omega | (simp; omega) | (simp [srcP]; done) | (simp [srcP]; omega)))) | ((with_reducible refine BX.setCell ?_ ?_ ?_ _); rotate_left; (focus (first | (simp; done) | omega | (simp; omega) | (simp [srcP]; done) | (simp [srcP]; omega))); (focus (first | (simp; done) | omega | (simp; omega) | (simp [srcP]; done) | (simp [srcP]; omega))))))) (by first | omega | (simp; done) | (simp; omega)) hb1; have hc1 := bxcell hb1; have hf1 := bxfrozen hb1; simp only [srcP_b] at hc1 hf1; have hz1a : w.heap.size < w1.heap.size := (by have := hb1.size; first | omega | (simp at this; omega)))
  (have hh1 := Lib.hid (show w1.heap[w.heap.size]? = some (.cells #[.int .i64 0, .int .i64 0, .slice none 0 0] 32 (0, 0)) from (hb1.block (w.heap.size) (by first | omega | (simp; done) | (simp; omega) | (simp [srcP]; omega)) (by first | omega | (simp; done) | (simp; omega) | (simp [srcP]; omega))).trans (by repeat (first | (with_reducible exact rfl) | (with_reducible exact heap_alloc_new _ _) | (rw [heap_drew1]) | (rw [heap_drewN1]) | (rw [Below.heap_setCell _ _ _ _ (by first | omega | (simp; done) | (simp; omega) | (simp [srcP]; omega))]) | (rw [Below.heap_alloc _ _ _ (by first | omega | (simp; done) | (simp; omega) | (simp [srcP]; omega))])))))
  have hs1 := hb1.size
  simp only [World.size_alloc] at hs1
  have hbw1 : b < w1.heap.size := by omega
  clear hc1 hf1
  go_wp2_with fail
  (go_at_call 79; with_reducible refine (draw_any b A n c bs B (7) _ (bxinv (B := w.heap.size) ?_ HI) (by omega)).mono ?_; (focus (repeat (first | (with_reducible assumption) | (with_reducible exact BX.refl _ _ _) | (with_reducible refine BX.drewN ?_ _) | (with_reducible refine BX.drew ?_) | ((with_reducible refine BX.alloc ?_ ?_ _); rotate_left; (focus (first | (simp; done) | omega | (simp; omega) | (simp [srcP]; done) | (simp [srcP]; omega)))) | ((with_reducible refine BX.setCell ?_ ?_ ?_ _); rotate_left; (focus (first | (simp; done) | omega | (simp; omega) | (simp [srcP]; done) | (simp [srcP]; omega))); (focus (first | (simp; done) | omega | (simp; omega) | (simp [srcP]; done) | (simp [srcP]; omega))))))); rintro e2 w2 ⟨u2, rfl, ⟨r2, rfl, hr2a, hr2b⟩, hb2⟩; have hB2 : BX (srcP 124 b A n c bs B) w.heap.size w w2 := BX.then (by (repeat (first | (with_reducible assumption) | (with_reducible exact BX.refl _ _ _) | (with_reducible refine BX.drewN ?_ _) | (with_reducible refine BX.drew ?_) | ((with_reducible refine BX.alloc ?_ ?_ _); rotate_left; (focus (first | (simp; done) | omega | (simp; omega) | (simp [srcP]; done) | (simp [srcP]; omega)))) | ((with_reducible refine BX.setCell ?_ ?_ ?_ _); rotate_left; (focus (first | (simp; done) | omega | (simp; omega) | (simp [srcP]; done) | (simp [srcP]; omega))); (focus (first | (simp; done) | omega | (simp; omega) | (simp [srcP]; done) | (simp [srcP]; omega))))))) (by first | omega | (simp; done) | (simp; omega)) hb2; have hc2 := bxcell hb2; have hf2 := bxfrozen hb2; simp only [srcP_b] at hc2 hf2; have hz2a : w.heap.size < w2.heap.size := (by have := hb2.size; first | omega | (simp at this; omega)))
  (have hh2 := Lib.hid (show w2.heap[w.heap.size]? = some (.cells #[.int .i64 0, .int .i64 0, .slice none 0 0] 32 (0, 0)) from (hb2.block (w.heap.size) (by first | omega | (simp; done) | (simp; omega) | (simp [srcP]; omega)) (by first | omega | (simp; done) | (simp; omega) | (simp [srcP]; omega))).trans (by repeat (first | (with_reducible exact hh1.out) | (with_reducible exact heap_alloc_new _ _) | (rw [heap_drew1]) | (rw [heap_drewN1]) | (rw [Below.heap_setCell _ _ _ _ (by first | omega | (simp; done) | (simp; omega) | (simp [srcP]; omega))]) | (rw [Below.heap_alloc _ _ _ (by first | omega | (simp; done) | (simp; omega) | (simp [srcP]; omega))])))))
  have hs2 := hb2.size
  have hbw2 : b < w2.heap.size := by omega
  have hbw3 : b < w2.heap.size + 1 := by omega
  have hbw4 : b < w2.heap.size + 1 + 1 := by omega
  obtain ⟨P, hP, hP1, hP2⟩ : ∃ P : Nat, (1 + r1) * (1 + r2) = (P : Int) ∧ 1 ≤ P ∧ P ≤ 49 := by
    have h1 := mul_bd1 (a := 1 + r1) (b := 1 + r2) (by omega) (by omega)
    have h2 := mul_bd (a := 1 + r1) (b := 1 + r2) (A := 7) (B := 7) (by omega) (by omega) (by omega) (by omega)
    exact ⟨((1 + r1) * (1 + r2)).toNat, by omega, by omega, by omega⟩
  have HB2 := Lib.hid hB2
  have hh2' := hh2
  have HO3 : Hid (Own ((w2.alloc (.cells #[.int .i64 (1 + r1), .int .i64 (1 + r2), .slice none 0 0] 32)).alloc (.cells #[] 2)) (w2.heap.size + 1) (.slice (some ⟨w2.heap.size + 1, 0, none⟩) 0 0) []) := Lib.hid (by
    have := World.ownsRow_made (e := 2) (size := 1) (base := w2.heap.size + 1) (w2.alloc (.cells #[.int .i64 (1 + r1), .int .i64 (1 + r2), .slice none 0 0] 32)) #[] 0 (by simp) (by unfold maxLen; omega) rfl
    simpa [Own] using this)
  have HBA : Hid (BX (srcP 124 b A n c bs B) w.heap.size w ((w2.alloc (.cells #[.int .i64 (1 + r1), .int .i64 (1 + r2), .slice none 0 0] 32)).alloc (.cells #[] 2))) := Lib.hid ((hB2.alloc (by omega) _).alloc (by simp; omega) _)
  have HZA : Hid (((w2.alloc (.cells #[.int .i64 (1 + r1), .int .i64 (1 + r2), .slice none 0 0] 32)).alloc (.cells #[] 2)).heap[w.heap.size]? = some (.cells #[.int .i64 0, .int .i64 0, .slice none 0 0] 32 (0, 0))) := Lib.hid (blk_alloc (blk_alloc hh2.out (by omega)) (by simp; omega))
  have HGA : Hid (((w2.alloc (.cells #[.int .i64 (1 + r1), .int .i64 (1 + r2), .slice none 0 0] 32)).alloc (.cells #[] 2)).heap[w2.heap.size]? = some (.cells #[.int .i64 (1 + r1), .int .i64 (1 + r2), .slice none 0 0] 32 (0, 0))) := Lib.hid (blk_alloc (heap_alloc_new _ _) (by simp))
  have hwG : w.heap.size < w2.heap.size := by omega
  clear hc2 hf2 hb2 hB2 hb1 hB1
  go_wp2_with fail
  go_loopw [4, 5] (fun ov i wr => ∃ k : Nat, k ≤ P ∧ i = .int .i64 k ∧ Hid (∃ ys : List Int, ys.length = k ∧ Own wr (w2.heap.size + 1) ov ys) ∧ Hid (BX (srcP 124 b A n c bs B) w.heap.size w wr) ∧
      Hid (w2.heap.size + 1 ≤ wr.heap.size ∧ wr.heap[w.heap.size]? = some (.cells #[.int .i64 0, .int .i64 0, .slice none 0 0] 32 (0, 0)) ∧ wr.heap[w2.heap.size]? = some (.cells #[.int .i64 (1 + r1), .int .i64 (1 + r2), .slice none 0 0] 32 (0, 0))))
    (fun _ i _ => P - (intOf i).toNat)
  case atStart => exact ⟨0, Nat.zero_le _, rfl, Lib.hid ⟨[], rfl, HO3.out⟩, HBA, Lib.hid ⟨by simp, HZA.out, HGA.out⟩⟩
  case round =>
    rename World => wo
    obtain ⟨k, hk, rfl, hown, hbx, hsz⟩ := hrel
    obtain ⟨ys, hyl, hoy⟩ := hown.out
    have HOY := Lib.hid hoy
    have HYL := Lib.hid hyl
    have hBo := hbx.out
    have hso := hsz.out.1
    have HZo := Lib.hid hsz.out.2.1
    have HGo := Lib.hid hsz.out.2.2
    have hbo : b < wo.heap.size := by omega
    have hwo : w.heap.size < wo.heap.size := by omega
    obtain ⟨y0, y1, y2, yf⟩ := blk3 HGo.out
    clear hown hoy hyl hsz
    by_cases hkP : k < P
    · have hkP' : (k : Int) < P := by omega
      go_wp2_with fail
      (go_at_call 79; with_reducible refine (draw_any b A n c bs B (256) _ (bxinv (B := w.heap.size) ?_ HI) (by omega)).mono ?_; (focus (repeat (first | (with_reducible assumption) | (with_reducible exact BX.refl _ _ _) | (with_reducible refine BX.drewN ?_ _) | (with_reducible refine BX.drew ?_) | ((with_reducible refine BX.alloc ?_ ?_ _); rotate_left; (focus (first | (simp; done) | omega | (simp; omega) | (simp [srcP]; done) | (simp [srcP]; omega)))) | ((with_reducible refine BX.setCell ?_ ?_ ?_ _); rotate_left; (focus (first | (simp; done) | omega | (simp; omega) | (simp [srcP]; done) | (simp [srcP]; omega))); (focus (first | (simp; done) | omega | (simp; omega) | (simp [srcP]; done) | (simp [srcP]; omega))))))); rintro e4 w4 ⟨u4, rfl, ⟨r4, rfl, hr4a, hr4b⟩, hb4⟩; have hB4 : BX (srcP 124 b A n c bs B) w.heap.size w w4 := BX.then (by (repeat (first | (with_reducible assumption) | (with_reducible exact BX.refl _ _ _) | (with_reducible refine BX.drewN ?_ _) | (with_reducible refine BX.drew ?_) | ((with_reducible refine BX.alloc ?_ ?_ _); rotate_left; (focus (first | (simp; done) | omega | (simp; omega) | (simp [srcP]; done) | (simp [srcP]; omega)))) | ((with_reducible refine BX.setCell ?_ ?_ ?_ _); rotate_left; (focus (first | (simp; done) | omega | (simp; omega) | (simp [srcP]; done) | (simp [srcP]; omega))); (focus (first | (simp; done) | omega | (simp; omega) | (simp [srcP]; done) | (simp [srcP]; omega))))))) (by first | omega | (simp; done) | (simp; omega)) hb4; have hc4 := bxcell hb4; have hf4 := bxfrozen hb4; simp only [srcP_b] at hc4 hf4)
      have hs4 := hb4.size
      have HO4 := Lib.hid (HOY.out.bx hb4 (show b < w2.heap.size + 1 by omega))
      (have hh4 := Lib.hid (show w4.heap[w.heap.size]? = some (.cells #[.int .i64 0, .int .i64 0, .slice none 0 0] 32 (0, 0)) from (hb4.block (w.heap.size) (by first | omega | (simp; done) | (simp; omega) | (simp [srcP]; omega)) (by first | omega | (simp; done) | (simp; omega) | (simp [srcP]; omega))).trans (by repeat (first | (with_reducible exact HZo.out) | (with_reducible exact heap_alloc_new _ _) | (rw [heap_drew1]) | (rw [heap_drewN1]) | (rw [Below.heap_setCell _ _ _ _ (by first | omega | (simp; done) | (simp; omega) | (simp [srcP]; omega))]) | (rw [Below.heap_alloc _ _ _ (by first | omega | (simp; done) | (simp; omega) | (simp [srcP]; omega))])))))
      (have hg4 := Lib.hid (show w4.heap[w2.heap.size]? = some (.cells #[.int .i64 (1 + r1), .int .i64 (1 + r2), .slice none 0 0] 32 (0, 0)) from (hb4.block (w2.heap.size) (by first | omega | (simp; done) | (simp; omega) | (simp [srcP]; omega)) (by first | omega | (simp; done) | (simp; omega) | (simp [srcP]; omega))).trans (by repeat (first | (with_reducible exact HGo.out) | (with_reducible exact heap_alloc_new _ _) | (rw [heap_drew1]) | (rw [heap_drewN1]) | (rw [Below.heap_setCell _ _ _ _ (by first | omega | (simp; done) | (simp; omega) | (simp [srcP]; omega))]) | (rw [Below.heap_alloc _ _ _ (by first | omega | (simp; done) | (simp; omega) | (simp [srcP]; omega))])))))
      have hbw4' : b < w4.heap.size := by omega
      have HB4 := Lib.hid hB4
      clear hc4 hf4 hb4 y0 y1 y2 yf
      go_wp2_with fail
      (go_at_call 79; with_reducible refine (draw_any b A n c bs B (5) _ (bxinv (B := w.heap.size) ?_ HI) (by omega)).mono ?_; (focus (repeat (first | (with_reducible assumption) | (with_reducible exact BX.refl _ _ _) | (with_reducible refine BX.drewN ?_ _) | (with_reducible refine BX.drew ?_) | ((with_reducible refine BX.alloc ?_ ?_ _); rotate_left; (focus (first | (simp; done) | omega | (simp; omega) | (simp [srcP]; done) | (simp [srcP]; omega)))) | ((with_reducible refine BX.setCell ?_ ?_ ?_ _); rotate_left; (focus (first | (simp; done) | omega | (simp; omega) | (simp [srcP]; done) | (simp [srcP]; omega))); (focus (first | (simp; done) | omega | (simp; omega) | (simp [srcP]; done) | (simp [srcP]; omega))))))); rintro e6 w6 ⟨u6, rfl, ⟨r6, rfl, hr6a, hr6b⟩, hb6⟩; have hB6 : BX (srcP 124 b A n c bs B) w.heap.size w w6 := BX.then (by (repeat (first | (with_reducible assumption) | (with_reducible exact BX.refl _ _ _) | (with_reducible refine BX.drewN ?_ _) | (with_reducible refine BX.drew ?_) | ((with_reducible refine BX.alloc ?_ ?_ _); rotate_left; (focus (first | (simp; done) | omega | (simp; omega) | (simp [srcP]; done) | (simp [srcP]; omega)))) | ((with_reducible refine BX.setCell ?_ ?_ ?_ _); rotate_left; (focus (first | (simp; done) | omega | (simp; omega) | (simp [srcP]; done) | (simp [srcP]; omega))); (focus (first | (simp; done) | omega | (simp; omega) | (simp [srcP]; done) | (simp [srcP]; omega))))))) (by first | omega | (simp; done) | (simp; omega)) hb6; have hc6 := bxcell hb6; have hf6 := bxfrozen hb6; simp only [srcP_b] at hc6 hf6)
      have hp6 : w6.heap[w4.heap.size]? = some (.cells #[.int .i64 (0), .int .i64 (255), .int .i64 (r4), .int .i64 (30), .int .i64 (220)] 2 (0, 0)) := (hb6.block w4.heap.size (by simp) (by simp; omega)).trans (heap_alloc_new _ _)
      obtain ⟨v, R6, hv6, hR6, hck6⟩ : ∃ (v : Int) (R : Nat), r6 = R ∧ R < 5 ∧ w6.cell? ⟨w4.heap.size, R, none⟩ = some (.int .i64 v) := by
        rcases (show r6 = 0 ∨ r6 = 1 ∨ r6 = 2 ∨ r6 = 3 ∨ r6 = 4 by omega) with rfl | rfl | rfl | rfl | rfl
        · exact ⟨0, 0, rfl, by decide, (blk_cell hp6 0).trans rfl⟩
        · exact ⟨255, 1, rfl, by decide, (blk_cell hp6 1).trans rfl⟩
        · exact ⟨r4, 2, rfl, by decide, (blk_cell hp6 2).trans rfl⟩
        · exact ⟨30, 3, rfl, by decide, (blk_cell hp6 3).trans rfl⟩
        · exact ⟨220, 4, rfl, by decide, (blk_cell hp6 4).trans rfl⟩
      subst hv6
      clear hp6
      have hs6 := hb6.size
      (first | simp only [World.size_alloc] at hs6 | skip)
      have HO6 := Lib.hid (Own.bx (w := w4.alloc (.cells #[.int .i64 0, .int .i64 255, .int .i64 r4, .int .i64 30, .int .i64 220] 2)) (HO4.out.keep ((Below.refl _ _).alloc (Nat.le_refl _) _)) hb6 (show b < w2.heap.size + 1 by omega))
      have hs6' : Hid (w2.heap.size + 1 ≤ w6.heap.size) := Lib.hid (by omega)
      (have hh6 := Lib.hid (show w6.heap[w.heap.size]? = some (.cells #[.int .i64 0, .int .i64 0, .slice none 0 0] 32 (0, 0)) from (hb6.block (w.heap.size) (by first | omega | (simp; done) | (simp; omega) | (simp [srcP]; omega)) (by first | omega | (simp; done) | (simp; omega) | (simp [srcP]; omega))).trans (by repeat (first | (with_reducible exact hh4.out) | (with_reducible exact heap_alloc_new _ _) | (rw [heap_drew1]) | (rw [heap_drewN1]) | (rw [Below.heap_setCell _ _ _ _ (by first | omega | (simp; done) | (simp; omega) | (simp [srcP]; omega))]) | (rw [Below.heap_alloc _ _ _ (by first | omega | (simp; done) | (simp; omega) | (simp [srcP]; omega))])))))
      (have hg6 := Lib.hid (show w6.heap[w2.heap.size]? = some (.cells #[.int .i64 (1 + r1), .int .i64 (1 + r2), .slice none 0 0] 32 (0, 0)) from (hb6.block (w2.heap.size) (by first | omega | (simp; done) | (simp; omega) | (simp [srcP]; omega)) (by first | omega | (simp; done) | (simp; omega) | (simp [srcP]; omega))).trans (by repeat (first | (with_reducible exact hg4.out) | (with_reducible exact heap_alloc_new _ _) | (rw [heap_drew1]) | (rw [heap_drewN1]) | (rw [Below.heap_setCell _ _ _ _ (by first | omega | (simp; done) | (simp; omega) | (simp [srcP]; omega))]) | (rw [Below.heap_alloc _ _ _ (by first | omega | (simp; done) | (simp; omega) | (simp [srcP]; omega))])))))
      have HI := HI0
      have hyl := HYL.out
      clear hc6 hf6 hb6
      go_wp2_with (at_builtin; refine wpList_append_own _ rfl _ _ 22 rfl ((w2.heap.size + 1)) 2 i0 (.int .i64 0) 1 8 Try.underlying22 HI.out.2.1 HI.out.2.2.1 HI.out.2.2.2.1 HI.out.2.2.2.2 rfl (by decide) _ _ _ rfl (Own.alloc HO6.out _) ⟨w6.heap.size, 0, none⟩ 1 1 [.int .i64 (v)] rfl rfl (cell_one_new _ _ _) (one_ok _) (own_max HO6.out (by omega)) (own_bytes HO6.out (by omega)) (own_base hs6'.out) ?_; intro va wa howna hgrowa _; have hoa := Lib.hid (Own.snoc howna); have hga := Lib.hid hgrowa; clear howna hgrowa)
      have hnb : ∀ j, j ≤ w2.heap.size → some j ≠ Value.ownBlock u4 := fun j hj e => by have := (World.ownsRow.lt HO6.out j e.symm).1; omega
      go_roundw
      case rel => exact ⟨k + 1, by omega, by go_num, Lib.hid ⟨ys ++ [v], by simp [HYL.out], hoa.out⟩, Lib.hid ((BX.alloc hB6 (by omega) _).grown hga.out (by simp; omega) (fun j hj => by have := (World.ownsRow.lt HO6.out j hj).1; simp; omega)),
        Lib.hid ⟨by have := hga.out.size; simp at this; omega, (hga.out.block _ (by simp; omega) (hnb _ (by omega))).trans (blk_alloc hh6.out (by omega)), (hga.out.block _ (by simp; omega) (hnb _ (Nat.le_refl _))).trans (blk_alloc hg6.out (by omega))⟩⟩
      case measure => simp [intOf]; omega
    · obtain rfl : k = P := by omega
      have hkP' : ¬ ((k : Int) < (k : Int)) := by omega
      go_wp2_with fail
      (go_at_call 79; with_reducible refine (draw_any b A n c bs B (30) _ (bxinv (B := w.heap.size) ?_ HI) (by omega)).mono ?_; (focus (repeat (first | (with_reducible assumption) | (with_reducible exact BX.refl _ _ _) | (with_reducible refine BX.drewN ?_ _) | (with_reducible refine BX.drew ?_) | ((with_reducible refine BX.alloc ?_ ?_ _); rotate_left; (focus (first | (simp; done) | omega | (simp; omega) | (simp [srcP]; done) | (simp [srcP]; omega)))) | ((with_reducible refine BX.setCell ?_ ?_ ?_ _); rotate_left; (focus (first | (simp; done) | omega | (simp; omega) | (simp [srcP]; done) | (simp [srcP]; omega))); (focus (first | (simp; done) | omega | (simp; omega) | (simp [srcP]; done) | (simp [srcP]; omega))))))); rintro e5 w5 ⟨u5, rfl, ⟨r5, rfl, hr5a, hr5b⟩, hb5⟩; have hB5 : BX (srcP 124 b A n c bs B) w.heap.size w w5 := BX.then (by (repeat (first | (with_reducible assumption) | (with_reducible exact BX.refl _ _ _) | (with_reducible refine BX.drewN ?_ _) | (with_reducible refine BX.drew ?_) | ((with_reducible refine BX.alloc ?_ ?_ _); rotate_left; (focus (first | (simp; done) | omega | (simp; omega) | (simp [srcP]; done) | (simp [srcP]; omega)))) | ((with_reducible refine BX.setCell ?_ ?_ ?_ _); rotate_left; (focus (first | (simp; done) | omega | (simp; omega) | (simp [srcP]; done) | (simp [srcP]; omega))); (focus (first | (simp; done) | omega | (simp; omega) | (simp [srcP]; done) | (simp [srcP]; omega))))))) (by first | omega | (simp; done) | (simp; omega)) hb5; have hc5 := bxcell hb5; have hf5 := bxfrozen hb5; simp only [srcP_b] at hc5 hf5)
      (have hh5 := Lib.hid (show w5.heap[w.heap.size]? = some (.cells #[.int .i64 0, .int .i64 0, .slice none 0 0] 32 (0, 0)) from (hb5.block (w.heap.size) (by first | omega | (simp; done) | (simp; omega) | (simp [srcP]; omega)) (by first | omega | (simp; done) | (simp; omega) | (simp [srcP]; omega))).trans (by repeat (first | (with_reducible exact HZo.out) | (with_reducible exact heap_alloc_new _ _) | (rw [heap_drew1]) | (rw [heap_drewN1]) | (rw [Below.heap_setCell _ _ _ _ (by first | omega | (simp; done) | (simp; omega) | (simp [srcP]; omega))]) | (rw [Below.heap_alloc _ _ _ (by first | omega | (simp; done) | (simp; omega) | (simp [srcP]; omega))])))))
      (have hg5 := Lib.hid (show w5.heap[w2.heap.size]? = some (.cells #[.int .i64 (1 + r1), .int .i64 (1 + r2), .slice none 0 0] 32 (0, 0)) from (hb5.block (w2.heap.size) (by first | omega | (simp; done) | (simp; omega) | (simp [srcP]; omega)) (by first | omega | (simp; done) | (simp; omega) | (simp [srcP]; omega))).trans (by repeat (first | (with_reducible exact HGo.out) | (with_reducible exact heap_alloc_new _ _) | (rw [heap_drew1]) | (rw [heap_drewN1]) | (rw [Below.heap_setCell _ _ _ _ (by first | omega | (simp; done) | (simp; omega) | (simp [srcP]; omega))]) | (rw [Below.heap_alloc _ _ _ (by first | omega | (simp; done) | (simp; omega) | (simp [srcP]; omega))])))))
      have hs5 := hb5.size
      have hbo5 : b < w5.heap.size := by omega
      have HO5 := Lib.hid (HOY.out.bx hb5 (show b < w2.heap.size + 1 by omega))
      have hs5' : Hid (w2.heap.size + 1 ≤ w5.heap.size) := Lib.hid (by omega)
      have HB5 := Lib.hid hB5
      clear hc5 hf5 hb5 y0 y1 y2 yf
      have hwG1 : w.heap.size < w2.heap.size + 1 := by omega
      by_cases e0 : r5 = 0
      · subst e0
        have HI := HI0
        have hyl := HYL.out
        have hnb : ∀ j, j ≤ w2.heap.size → some j ≠ Value.ownBlock u4 := fun j hj e => by have := (World.ownsRow.lt HO5.out j e.symm).1; omega
        have HB5' := HB5
        go_wp2_with ((at_builtin; refine wpList_append_own _ rfl _ _ 22 rfl ((w2.heap.size + 1)) 2 i0 (.int .i64 0) 1 8 Try.underlying22 HI.out.2.1 HI.out.2.2.1 HI.out.2.2.2.1 HI.out.2.2.2.2 rfl (by decide) _ _ _ rfl (Own.alloc HO5.out _) ⟨w5.heap.size, 0, none⟩ 1 1 [.int .i64 (0)] rfl rfl (cell_one_new _ _ _) (one_ok _) (own_max HO5.out (by omega)) (own_bytes HO5.out (by omega)) (own_base hs5'.out) ?_; intro va wa howna hgrowa _; have hoa := Lib.hid (Own.snoc howna); have hga := Lib.hid hgrowa; clear howna hgrowa); have hB6 := Lib.hid ((BX.alloc HB5'.out (show w.heap.size ≤ w5.heap.size by omega) (.cells #[.int .i64 0] 2)).grown hga.out (by simp; omega) (fun j hj => by have := (World.ownsRow.lt HO5.out j hj).1; simp; omega)); have HZ6 := Lib.hid ((hga.out.block _ (by simp; omega) (hnb _ (by omega))).trans (blk_alloc hh5.out (by omega))); have HG6 := Lib.hid ((hga.out.block _ (by simp; omega) (hnb _ (Nat.le_refl _))).trans (blk_alloc hg5.out (by omega))); have hlen9 : (ys ++ [0]).length = k + 1 := (by simp [HYL.out]); have HOA := hoa.out; obtain ⟨Aa, ca, rfl, -⟩ := hoa.out.shape; rw [hlen9] at HOA ⊢; have HOA := Lib.hid HOA; obtain ⟨y0, y1, y2, -⟩ := blk3 HG6.out; obtain ⟨z0, z1, z2, zf⟩ := blk3 HZ6.out; obtain ⟨s0, s1, s2⟩ := res3 HZ6.out (.int .i64 (1 + r1)) (.int .i64 (1 + r2)) (.slice Aa (k + 1) ca))
        (try simp only [Exit.inBlock, Exit.then]); refine bodyPost_ret (by simp [results, Try.results122, go_sem, s0, s1, s2]; try rfl) rfl ?_
        exact ⟨_, rfl, ⟨_, _, _, ys ++ [0], rfl, by simp, by simp; omega, ((((HOA.out.setLt (p := ⟨w.heap.size, 0, none⟩) hwG1 _).setLt (p := ⟨w.heap.size, 1, none⟩) hwG1 _).setLt (p := ⟨w.heap.size, 2, none⟩) hwG1 _)).more (Nat.le_of_lt hwG1)⟩, ((hB6.out.setCell (p := ⟨w.heap.size, 0, none⟩) (Nat.le_refl _) hbw _).setCell (p := ⟨w.heap.size, 1, none⟩) (Nat.le_refl _) hbw _).setCell (p := ⟨w.heap.size, 2, none⟩) (Nat.le_refl _) hbw _⟩
      · have e0' : (r5 == 0) = false := by simpa using e0
        obtain ⟨g8, c8, rfl, hg8, hg8w, hcc, hff⟩ := HO5.out.row (by rw [HYL.out]; omega)
        have hyl := HYL.out
        rw [hyl] at hcc
        have HO5' : Hid (Own w5 (w2.heap.size + 1) (.slice (some ⟨g8, 0, none⟩) k c8) ys) := Lib.hid (by have := HO5.out; rwa [hyl] at this)
        rw [hyl]
        have hb8 : b < g8 := by omega
        have hz8 : w.heap.size < g8 := by omega
        by_cases e1 : r5 = 1
        · subst e1
          clear hcc hff hyl
          go_wp2_with fail
          (go_at_call 79; with_reducible refine (draw_any b A n c bs B (2) _ (bxinv (B := w.heap.size) ?_ HI) (by omega)).mono ?_; (focus (repeat (first | (with_reducible assumption) | (with_reducible exact BX.refl _ _ _) | (with_reducible refine BX.drewN ?_ _) | (with_reducible refine BX.drew ?_) | ((with_reducible refine BX.alloc ?_ ?_ _); rotate_left; (focus (first | (simp; done) | omega | (simp; omega) | (simp [srcP]; done) | (simp [srcP]; omega)))) | ((with_reducible refine BX.setCell ?_ ?_ ?_ _); rotate_left; (focus (first | (simp; done) | omega | (simp; omega) | (simp [srcP]; done) | (simp [srcP]; omega))); (focus (first | (simp; done) | omega | (simp; omega) | (simp [srcP]; done) | (simp [srcP]; omega))))))); rintro e6 w6 ⟨u6, rfl, ⟨r6, rfl, hr6a, hr6b⟩, hb6⟩; have hB6 : BX (srcP 124 b A n c bs B) w.heap.size w w6 := BX.then (by (repeat (first | (with_reducible assumption) | (with_reducible exact BX.refl _ _ _) | (with_reducible refine BX.drewN ?_ _) | (with_reducible refine BX.drew ?_) | ((with_reducible refine BX.alloc ?_ ?_ _); rotate_left; (focus (first | (simp; done) | omega | (simp; omega) | (simp [srcP]; done) | (simp [srcP]; omega)))) | ((with_reducible refine BX.setCell ?_ ?_ ?_ _); rotate_left; (focus (first | (simp; done) | omega | (simp; omega) | (simp [srcP]; done) | (simp [srcP]; omega))); (focus (first | (simp; done) | omega | (simp; omega) | (simp [srcP]; done) | (simp [srcP]; omega))))))) (by first | omega | (simp; done) | (simp; omega)) hb6; have hc6 := bxcell hb6; have hf6 := bxfrozen hb6; simp only [srcP_b] at hc6 hf6)
          have hp6 : w6.heap[w5.heap.size]? = some (.cells #[.int .i64 (-1), .int .i64 (256)] 2 (0, 0)) := (hb6.block w5.heap.size (by simp) (by simp; omega)).trans (heap_alloc_new _ _)
          obtain ⟨v, R6, hv6, hR6, hck6⟩ : ∃ (v : Int) (R : Nat), r6 = R ∧ R < 2 ∧ w6.cell? ⟨w5.heap.size, R, none⟩ = some (.int .i64 v) := by
            rcases (show r6 = 0 ∨ r6 = 1 by omega) with rfl | rfl
            · exact ⟨-1, 0, rfl, by decide, (blk_cell hp6 0).trans rfl⟩
            · exact ⟨256, 1, rfl, by decide, (blk_cell hp6 1).trans rfl⟩
          subst hv6
          clear hp6
          have hs6 := hb6.size
          (first | simp only [World.size_alloc] at hs6 | skip)
          have HO6 := Lib.hid (Own.bx (w := w5.alloc (.cells #[.int .i64 (-1), .int .i64 256] 2)) (HO5'.out.keep ((Below.refl _ _).alloc (Nat.le_refl _) _)) hb6 (show b < w2.heap.size + 1 by omega))
          have HZ6 := Lib.hid ((hb6.block w.heap.size (by simp; omega) (by simp; omega)).trans (blk_alloc hh5.out (by omega)))
          have HG6 := Lib.hid ((hb6.block w2.heap.size (by simp; omega) (by simp; omega)).trans (blk_alloc hg5.out (by omega)))
          obtain ⟨g9, c9, e9, hg9, hg9w, hcc, hff⟩ := HO6.out.row (by rw [HYL.out]; omega)
          simp only [Value.slice.injEq, Option.some.injEq, Addr.mk.injEq, and_true] at e9
          obtain ⟨rfl, -, rfl⟩ := e9
          have hck := hcc 0 (by rw [HYL.out]; omega)
          have hfk := hff 0
          have HZ7 : Hid ((w6.setCell ⟨g8, 0, none⟩ (.int .i64 v)).heap[w.heap.size]? = _) := Lib.hid (blk_other HZ6.out (by omega))
          have HG7 : Hid ((w6.setCell ⟨g8, 0, none⟩ (.int .i64 v)).heap[w2.heap.size]? = _) := Lib.hid (blk_other HG6.out (by omega))
          have HO7 := Lib.hid (Own.setn (k := 0) (u := v) HYL.out HO6.out)
          have hB7 := Lib.hid (hB6.setCell (p := ⟨g8, 0, none⟩) (show w.heap.size ≤ g8 by omega) hb8 (.int .i64 v))
          obtain ⟨y0, y1, y2, -⟩ := blk3 HG7.out
          obtain ⟨z0, z1, z2, zf⟩ := blk3 HZ7.out
          obtain ⟨s0, s1, s2⟩ := res3 HZ7.out (.int .i64 (1 + r1)) (.int .i64 (1 + r2)) (.slice (some ⟨g8, 0, none⟩) k c8)
          clear hcc hff hc6 hf6 hb6 hB6
          go_wp2_with fail
          (try simp only [Exit.inBlock, Exit.then]); refine bodyPost_ret (by simp [results, Try.results122, go_sem, s0, s1, s2]; try rfl) rfl ?_
          exact ⟨_, rfl, ⟨_, _, _, ys.set 0 v, rfl, by rw [List.length_set, HYL.out]; omega, by rw [List.length_set, HYL.out]; omega, ((((HO7.out.setLt (p := ⟨w.heap.size, 0, none⟩) hwG1 _).setLt (p := ⟨w.heap.size, 1, none⟩) hwG1 _).setLt (p := ⟨w.heap.size, 2, none⟩) hwG1 _)).more (Nat.le_of_lt hwG1)⟩, ((hB7.out.setCell (p := ⟨w.heap.size, 0, none⟩) (Nat.le_refl _) hbw _).setCell (p := ⟨w.heap.size, 1, none⟩) (Nat.le_refl _) hbw _).setCell (p := ⟨w.heap.size, 2, none⟩) (Nat.le_refl _) hbw _⟩
        · have e1' : (r5 == 1) = false := by simpa using e1
          by_cases e2 : r5 = 2
          · subst e2
            clear hcc hff hyl
            go_wp2_with fail
            (go_at_call 79; with_reducible refine (draw_any b A n c bs B (2) _ (bxinv (B := w.heap.size) ?_ HI) (by omega)).mono ?_; (focus (repeat (first | (with_reducible assumption) | (with_reducible exact BX.refl _ _ _) | (with_reducible refine BX.drewN ?_ _) | (with_reducible refine BX.drew ?_) | ((with_reducible refine BX.alloc ?_ ?_ _); rotate_left; (focus (first | (simp; done) | omega | (simp; omega) | (simp [srcP]; done) | (simp [srcP]; omega)))) | ((with_reducible refine BX.setCell ?_ ?_ ?_ _); rotate_left; (focus (first | (simp; done) | omega | (simp; omega) | (simp [srcP]; done) | (simp [srcP]; omega))); (focus (first | (simp; done) | omega | (simp; omega) | (simp [srcP]; done) | (simp [srcP]; omega))))))); rintro e6 w6 ⟨u6, rfl, ⟨r6, rfl, hr6a, hr6b⟩, hb6⟩; have hB6 : BX (srcP 124 b A n c bs B) w.heap.size w w6 := BX.then (by (repeat (first | (with_reducible assumption) | (with_reducible exact BX.refl _ _ _) | (with_reducible refine BX.drewN ?_ _) | (with_reducible refine BX.drew ?_) | ((with_reducible refine BX.alloc ?_ ?_ _); rotate_left; (focus (first | (simp; done) | omega | (simp; omega) | (simp [srcP]; done) | (simp [srcP]; omega)))) | ((with_reducible refine BX.setCell ?_ ?_ ?_ _); rotate_left; (focus (first | (simp; done) | omega | (simp; omega) | (simp [srcP]; done) | (simp [srcP]; omega))); (focus (first | (simp; done) | omega | (simp; omega) | (simp [srcP]; done) | (simp [srcP]; omega))))))) (by first | omega | (simp; done) | (simp; omega)) hb6; have hc6 := bxcell hb6; have hf6 := bxfrozen hb6; simp only [srcP_b] at hc6 hf6)
            have hs6 := hb6.size
            simp only [World.size_alloc] at hs6
            have hh6 : w6.heap[w5.heap.size]? = some (.cells ([0, 401].map (Value.int .i64)).toArray 2 (0, 0)) := (hb6.block w5.heap.size (by simp) (by simp; omega)).trans (heap_alloc_new _ _)
            obtain ⟨R, v, rfl, hR, hv, hv1, hv2⟩ := pick_in (xs := [0, 401]) (lo := 0) (hi := 401) (by decide) hr6a (by simp; omega)
            have hck := pick_lit hh6 hv
            have hR' : R < 2 := hR
            have HO6 := Lib.hid (Own.bx (w := w5.alloc (.cells ([0, 401].map (Value.int .i64)).toArray 2)) (HO5'.out.keep ((Below.refl _ _).alloc (Nat.le_refl _) _)) hb6 (show b < w2.heap.size + 1 by omega))
            have HZ6 := Lib.hid ((hb6.block w.heap.size (by simp; omega) (by simp; omega)).trans (blk_alloc hh5.out (by omega)))
            have HG6 := Lib.hid ((hb6.block w2.heap.size (by simp; omega) (by simp; omega)).trans (blk_alloc hg5.out (by omega)))
            have HB6 := Lib.hid (hB6.setCell (p := ⟨w2.heap.size, 0, none⟩) (show w.heap.size ≤ w2.heap.size by omega) (show b < w2.heap.size by omega) (.int .i64 v))
            have HZ7 : Hid ((w6.setCell ⟨w2.heap.size, 0, none⟩ (.int .i64 v)).heap[w.heap.size]? = _) := Lib.hid (blk_other HZ6.out (by omega))
            obtain ⟨y0, y1, y2, yf⟩ := blk3 HG6.out
            obtain ⟨x0, x1, x2, -⟩ := blk3 (blk3_0 (u := .int .i64 v) HG6.out)
            obtain ⟨z0, z1, z2, zf⟩ := blk3 HZ7.out
            obtain ⟨s0, s1, s2⟩ := res3 HZ7.out (.int .i64 v) (.int .i64 (1 + r2)) (.slice (some ⟨g8, 0, none⟩) k c8)
            have HO7 := Lib.hid (HO6.out.setLt (p := ⟨w2.heap.size, 0, none⟩) (Nat.lt_succ_self _) (.int .i64 v))
            clear hh6 hv hc6 hf6 hb6 hB6
            go_wp2_with fail
            (try simp only [Exit.inBlock, Exit.then]); refine bodyPost_ret (by simp [results, Try.results122, go_sem, s0, s1, s2]; try rfl) rfl ?_
            exact ⟨_, rfl, ⟨_, _, _, ys, rfl, by rw [HYL.out]; omega, by rw [HYL.out]; omega, ((((HO7.out.setLt (p := ⟨w.heap.size, 0, none⟩) hwG1 _).setLt (p := ⟨w.heap.size, 1, none⟩) hwG1 _).setLt (p := ⟨w.heap.size, 2, none⟩) hwG1 _)).more (Nat.le_of_lt hwG1)⟩, ((HB6.out.setCell (p := ⟨w.heap.size, 0, none⟩) (Nat.le_refl _) hbw _).setCell (p := ⟨w.heap.size, 1, none⟩) (Nat.le_refl _) hbw _).setCell (p := ⟨w.heap.size, 2, none⟩) (Nat.le_refl _) hbw _⟩
          · have e2' : (r5 == 2) = false := by simpa using e2
            obtain ⟨y0, y1, y2, yf⟩ := blk3 hg5.out
            obtain ⟨z0, z1, z2, zf⟩ := blk3 hh5.out
            obtain ⟨s0, s1, s2⟩ := res3 hh5.out (.int .i64 (1 + r1)) (.int .i64 (1 + r2)) (.slice (some ⟨g8, 0, none⟩) k c8)
            clear hcc hff hyl
            go_wp2_with fail
            (try simp only [Exit.inBlock, Exit.then]); refine bodyPost_ret (by simp [results, Try.results122, go_sem, s0, s1, s2]; try rfl) rfl ?_
            exact ⟨_, rfl, ⟨_, _, _, ys, rfl, by rw [HYL.out]; omega, by rw [HYL.out]; omega, ((((HO5'.out.setLt (p := ⟨w.heap.size, 0, none⟩) hwG1 _).setLt (p := ⟨w.heap.size, 1, none⟩) hwG1 _).setLt (p := ⟨w.heap.size, 2, none⟩) hwG1 _)).more (Nat.le_of_lt hwG1)⟩, ((HB5.out.setCell (p := ⟨w.heap.size, 0, none⟩) (Nat.le_refl _) hbw _).setCell (p := ⟨w.heap.size, 1, none⟩) (Nat.le_refl _) hbw _).setCell (p := ⟨w.heap.size, 2, none⟩) (Nat.le_refl _) hbw _⟩

end Go.Proofs.Ytflpllmbpfdnjaa
namespace Go.Proofs.Ytflpllmbpfdnjaa
set_option linter.unusedSimpArgs false
open Go.RowKit

/-- While draws go on: blocks that stay as they are. -/
structure KB (s : SP) (w0 : World) (l : List (Nat × Obj)) (w : World) : Prop where
  bx : BX s w0.heap.size w0 w
  inv : s.I w
  k : ∀ p ∈ l, w.heap[p.1]? = some p.2 ∧ p.1 ≠ s.b
section
variable {s : SP} {w0 w w' : World} {l l' : List (Nat × Obj)}
theorem KB.nil (h : s.I w) : KB s w [] w := ⟨BX.refl _ _ _, h, fun p hp => by cases hp⟩
theorem KB.step (h : KB s w0 l w) (hb : BX s w.heap.size w w') : KB s w0 l w' :=
  ⟨h.bx.trans (hb.mono h.bx.size), hb.inv h.inv, fun p hp => ⟨(hb.block _ (lt_of_block (h.k p hp).1) (h.k p hp).2).trans (h.k p hp).1, (h.k p hp).2⟩⟩
theorem KB.below (h : KB s w0 l w) (hb : Below w.heap.size w w') : KB s w0 l w' := h.step (BX.of_below hb (s.lt h.inv))
theorem KB.drew (h : KB s w0 l w) : KB s w0 l w.drew := h.below (Below.refl _ _).drew
theorem KB.drewN (h : KB s w0 l w) (m : Nat) : KB s w0 l (w.drewN m) := h.below (below_drewN' (Below.refl _ _) _)
theorem KB.push (h : KB s w0 l w) (cs : Array Value) (t : Nat) {b : Nat} (hb : w.heap.size = b) : KB s w0 ((b, .cells cs t (0, 0)) :: l) (w.alloc (.cells cs t)) := by
  have h1 := h.below ((Below.refl w.heap.size w).alloc (Nat.le_refl _) (.cells cs t))
  refine ⟨h1.bx, h1.inv, fun p hp => ?_⟩
  rcases List.mem_cons.1 hp with rfl | hp
  · subst hb
    exact ⟨heap_alloc_new _ _, by have := s.lt h.inv; simp; omega⟩
  · exact h1.k p hp
theorem KB.get (h : KB s w0 l w) {g : Nat} {o : Obj} (hm : (g, o) ∈ l) : w.heap[g]? = some o := (h.k _ hm).1
theorem KB.lt (h : KB s w0 l w) {g : Nat} {o : Obj} (hm : (g, o) ∈ l) : g < w.heap.size := lt_of_block (h.k _ hm).1
theorem KB.sub (h : KB s w0 l w) (hs : ∀ p ∈ l', p ∈ l) : KB s w0 l' w := ⟨h.bx, h.inv, fun p hp => h.k p (hs p hp)⟩
end
theorem Own.setNe {w : World} {B : Nat} {v : Value} {xs : List Int} (h : Own w B v xs) {p : Addr} (hp : v.ownBlock ≠ some p.block) (u : Value) : Own (w.setCell p u) B v xs := by
  refine ⟨h.1, ?_⟩
  rcases h.2 with h' | ⟨g, cap, cur, rfl, hB, hg, hr⟩
  · exact .inl h'
  · exact .inr ⟨g, cap, cur, rfl, hB, (Below.heap_setCell _ _ _ _ (fun e => hp (by rw [← e]; rfl))).trans hg, hr⟩
/-- .. and one block of numbers, how many alone is told, made behind the others. -/
def KL (s : SP) (w0 : World) (g t n : Nat) (l : List (Nat × Obj)) (w : World) : Prop := ∃ xs : List Int, xs.length = n ∧ KB s w0 l w ∧ RowAt w g t xs ∧ (w0.heap.size ≤ g ∧ s.b < g) ∧ (∀ p ∈ l, p.1 < g)
section
variable {s : SP} {w0 w w' : World} {g t n : Nat} {l : List (Nat × Obj)}
theorem KB.setO (h : KB s w0 l w) {g k : Nat} {v : Value} (hg : w0.heap.size ≤ g) (hb : s.b < g) (hl : ∀ p ∈ l, p.1 < g) : KB s w0 l (w.setCell ⟨g, k, none⟩ v) :=
  ⟨h.bx.setCell (p := ⟨g, k, none⟩) hg hb v, s.st ((Below.refl (s.b + 1) _).setCell (p := ⟨g, k, none⟩) hb v) h.inv, fun p hp => ⟨blk_other (h.k p hp).1 (by have := hl p hp; omega), (h.k p hp).2⟩⟩
theorem KL.step (h : KL s w0 g t n l w) (hb : BX s w.heap.size w w') : KL s w0 g t n l w' := by
  obtain ⟨xs, hn, hk, hr, hg, hl⟩ := h
  exact ⟨xs, hn, hk.step hb, RowAt.of (hb.block _ hr.lt (by omega)) hr, hg, hl⟩
theorem KL.below (h : KL s w0 g t n l w) (hb : Below w.heap.size w w') : KL s w0 g t n l w' := h.step (BX.of_below hb (by obtain ⟨xs, hn, hk, hr, hg, hl⟩ := h; exact s.lt hk.inv))
theorem KL.drew (h : KL s w0 g t n l w) : KL s w0 g t n l w.drew := h.below (Below.refl _ _).drew
theorem KL.set (h : KL s w0 g t n l w) (k : Nat) (u : Int) : KL s w0 g t n l (w.setCell ⟨g, k, none⟩ (.int .i64 u)) := by
  obtain ⟨xs, hn, hk, hr, hg, hl⟩ := h
  exact ⟨xs.set k u, by rw [List.length_set]; exact hn, hk.setO hg.1 hg.2 hl, hr.set u, hg, hl⟩
theorem KL.inv (h : KL s w0 g t n l w) : s.I w := by obtain ⟨xs, hn, hk, hr, hg, hl⟩ := h; exact hk.inv
theorem KL.new (h : KB s w0 l w) {xs : List Int} {cs : Array Value} (e : cs = (xs.map (Value.int .i64)).toArray) (hn : xs.length = n) (hb : w.heap.size = g) : KL s w0 g t n l (w.alloc (.cells cs t)) := by
  subst hb
  refine ⟨xs, hn, h.below ((Below.refl w.heap.size w).alloc (Nat.le_refl _) _), RowAt.made e, ⟨h.bx.size, s.lt h.inv⟩, fun p hp => lt_of_block (h.k p hp).1⟩
theorem KL.kb (h : KL s w0 g t n l w) : ∃ xs : List Int, xs.length = n ∧ KB s w0 ((g, .cells (xs.map (Value.int .i64)).toArray t (0, 0)) :: l) w := by
  obtain ⟨xs, hn, hk, hr, hg, hl⟩ := h
  refine ⟨xs, hn, hk.bx, hk.inv, fun p hp => ?_⟩
  rcases List.mem_cons.1 hp with rfl | hp
  · exact ⟨hr, by omega⟩
  · exact hk.k p hp
theorem KL.eight (h : KL s w0 g t 8 l w) : ∃ q0 q1 q2 q3 q4 q5 q6 q7 : Int, KB s w0 ((g, .cells #[.int .i64 q0, .int .i64 q1, .int .i64 q2, .int .i64 q3, .int .i64 q4, .int .i64 q5, .int .i64 q6, .int .i64 q7] t (0, 0)) :: l) w := by
  obtain ⟨xs, hn, hk⟩ := h.kb
  match xs, hn with
  | [a, b, c, d, e, f, g', i], _ => exact ⟨a, b, c, d, e, f, g', i, hk⟩
theorem KL.nine (h : KL s w0 g t 9 l w) : ∃ q0 q1 q2 q3 q4 q5 q6 q7 q8 : Int, KB s w0 ((g, .cells #[.int .i64 q0, .int .i64 q1, .int .i64 q2, .int .i64 q3, .int .i64 q4, .int .i64 q5, .int .i64 q6, .int .i64 q7, .int .i64 q8] t (0, 0)) :: l) w := by
  obtain ⟨xs, hn, hk⟩ := h.kb
  match xs, hn with
  | [a, b, c, d, e, f, g', i, j], _ => exact ⟨a, b, c, d, e, f, g', i, j, hk⟩
theorem KL.ci (h : KL s w0 g t n l w) {k : Nat} (hk : k < n) : w.cell? ⟨g, k, none⟩ = some (.int .i64 (cellI w g k)) := by obtain ⟨xs, hn, _, hr, _⟩ := h; exact cellI_ok (hr.cell (by omega))
theorem KL.free (h : KL s w0 g t n l w) (k : Nat) : w.frozen? ⟨g, k, none⟩ = false := by obtain ⟨xs, hn, _, hr, _⟩ := h; exact hr.free k
theorem KL.base (h : KL s w0 g t n l w) : KB s w0 l w := by obtain ⟨xs, hn, hk, _⟩ := h; exact hk
theorem KL.bnd (h : KL s w0 g t n l w) : s.b < g ∧ g < w.heap.size := by obtain ⟨xs, hn, hk, hr, hg, hl⟩ := h; exact ⟨hg.2, hr.lt⟩
end
theorem tri14 {w : World} {bp bm bg t1 t2 t3 : Nat} {a0 a1 a2 y0 y1 y2 y3 y4 y5 y6 y7 y8 g0 g1 g2 : Value} (h1 : w.heap[bp]? = some (.cells #[a0, a1, a2] t1 (0, 0))) (h2 : w.heap[bm]? = some (.cells #[y0, y1, y2, y3, y4, y5, y6, y7, y8] t2 (0, 0))) (h3 : w.heap[bg]? = some (.cells #[g0, g1, g2] t3 (0, 0))) :
    w.cell? ⟨bp, 0, none⟩ = some a0 ∧ w.cell? ⟨bp, 1, none⟩ = some a1 ∧ w.cell? ⟨bp, 2, none⟩ = some a2 ∧ w.cell? ⟨bm, 0, none⟩ = some y0 ∧ w.cell? ⟨bm, 1, none⟩ = some y1 ∧ w.cell? ⟨bm, 2, none⟩ = some y2 ∧ w.cell? ⟨bm, 3, none⟩ = some y3 ∧ w.cell? ⟨bm, 4, none⟩ = some y4 ∧ w.cell? ⟨bm, 5, none⟩ = some y5 ∧ w.cell? ⟨bm, 6, none⟩ = some y6 ∧ w.cell? ⟨bm, 7, none⟩ = some y7 ∧ w.cell? ⟨bm, 8, none⟩ = some y8 ∧ w.cell? ⟨bg, 0, none⟩ = some g0 ∧ w.cell? ⟨bg, 1, none⟩ = some g1 := by
  obtain ⟨x0, x1, x2, -⟩ := blk3 h1
  obtain ⟨z0, z1, z2, z3, z4, z5, z6, z7, z8, -⟩ := blk9 h2
  obtain ⟨u0, u1, -, -⟩ := blk3 h3
  exact ⟨x0, x1, x2, z0, z1, z2, z3, z4, z5, z6, z7, z8, u0, u1⟩
theorem prK_0q {r c : Int} {xs : List Int} {p t q d l : Int} (h : prK r c xs p t q d l = 0) : gridB r c xs = true ∧ prnB p t q 0 d l = true ∧ posB xs = true ∧ psK r c p t q 0 d l = 0 := by
  unfold prK at h
  split at h
  · split at h
    · split at h
      · exact ⟨by assumption, by assumption, by assumption, h⟩
      · simp at h
    · simp at h
  · simp at h
theorem prL_le' {r c : Int} {xs : List Int} {p t q d l : Int} : (prL r c xs p t q d l).length ≤ 40000 := by
  unfold prL
  split
  · rename_i h
    obtain ⟨-, -, -, g4⟩ := prK_0q h
    obtain ⟨-, -, b3⟩ := psK_0 g4
    obtain ⟨h1, h2, h3⟩ := rszB_true b3
    rw [grdL_len]
    generalize (r + 2 * q) * t = a at *
    generalize (c + 2 * q) * p = b at *
    obtain ⟨a, rfl⟩ := Int.eq_ofNat_of_zero_le (show 0 ≤ a by omega)
    obtain ⟨b, rfl⟩ := Int.eq_ofNat_of_zero_le (show 0 ≤ b by omega)
    rw [← Int.natCast_mul] at h3
    simp only [Int.toNat_natCast]
    omega
  · simp

set_option maxRecDepth 20000 in
set_option maxHeartbeats 20000000 in
theorem l26Draw_any (b : Nat) (A : Option Addr) (n c : Nat) (bs : List Int) (B : Nat) (w : World) (hI : (srcP 124 b A n c bs B).I w) :
    Calls Try.prog 106 #[.pointer (some ⟨b, 0, none⟩)] w fun e w' =>
      ∃ u, e = .returned u ∧ (∃ (pr pc : Int) (v : Value) (xs : List Int) (y0 y1 y2 y3 y4 y5 y6 y7 y8 z0 z1 z2 z3 : Int), u = .tuple #[.agg #[.int .i64 pr, .int .i64 pc, v], .agg #[.int .i64 y0, .int .i64 y1, .int .i64 y2, .int .i64 y3, .int .i64 y4, .int .i64 y5, .int .i64 y6, .int .i64 y7, .int .i64 y8], .agg #[.int .i64 z0, .int .i64 z1, .int .i64 z2, .int .i64 z3]] ∧ xs.length ≤ 40000 ∧ Own w' w.heap.size v xs) ∧ BX (srcP 124 b A n c bs B) w.heap.size w w' := by
  have hbw := srcP_lt hI
  have HK0 : Hid (KB (srcP 124 b A n c bs B) w [(w.heap.size + 1 + 1, .cells #[.int .i64 (0), .int .i64 (0), .int .i64 (0), .int .i64 (0)] 36 (0, 0)), (w.heap.size + 1, .cells #[.int .i64 (0), .int .i64 (0), .int .i64 (0), .int .i64 (0), .int .i64 (0), .int .i64 (0), .int .i64 (0), .int .i64 (0), .int .i64 (0)] 34 (0, 0)), (w.heap.size, .cells #[.int .i64 (0), .int .i64 (0), .slice none 0 0] 32 (0, 0))] (((w.alloc (.cells #[.int .i64 (0), .int .i64 (0), .slice none 0 0] 32)).alloc (.cells #[.int .i64 (0), .int .i64 (0), .int .i64 (0), .int .i64 (0), .int .i64 (0), .int .i64 (0), .int .i64 (0), .int .i64 (0), .int .i64 (0)] 34)).alloc (.cells #[.int .i64 (0), .int .i64 (0), .int .i64 (0), .int .i64 (0)] 36))) := Lib.hid ((((KB.nil hI).push _ _ rfl).push _ _ (by simp)).push _ _ (by simp))
  have hs0 : (((w.alloc (.cells #[.int .i64 (0), .int .i64 (0), .slice none 0 0] 32)).alloc (.cells #[.int .i64 (0), .int .i64 (0), .int .i64 (0), .int .i64 (0), .int .i64 (0), .int .i64 (0), .int .i64 (0), .int .i64 (0), .int .i64 (0)] 34)).alloc (.cells #[.int .i64 (0), .int .i64 (0), .int .i64 (0), .int .i64 (0)] 36)).heap.size = w.heap.size + 1 + 1 + 1 := by simp
  clear hI
  go_enter Try.func106, Try.ntmps106
  go_wp2_with fail
  generalize (((w.alloc (.cells #[.int .i64 (0), .int .i64 (0), .slice none 0 0] 32)).alloc (.cells #[.int .i64 (0), .int .i64 (0), .int .i64 (0), .int .i64 (0), .int .i64 (0), .int .i64 (0), .int .i64 (0), .int .i64 (0), .int .i64 (0)] 34)).alloc (.cells #[.int .i64 (0), .int .i64 (0), .int .i64 (0), .int .i64 (0)] 36)) = wa at *
  go_at_call 61
  with_reducible refine (l16Draw_any b A n c bs B _ HK0.out.inv).mono ?_
  rintro e1 w1 ⟨u1, rfl, hdg, hb1⟩
  have HK1 := Lib.hid (HK0.out.step hb1)
  have hs1 := hb1.size
  rw [hs0] at hdg hs1
  obtain ⟨r, cc, gv, xs, rfl, gl1, gl2, go1, gb1, gb2, gb3, gb4⟩ := hdg
  obtain ⟨GA, gcp, rfl, -⟩ := go1.shape
  obtain ⟨L, hL⟩ : ∃ L, xs.length = L := ⟨_, rfl⟩
  rw [hL] at go1 gl1 gl2 ⊢
  have HL := Lib.hid hL
  have HO1 := Lib.hid go1
  have hbB : b < w.heap.size + 1 + 1 + 1 := by omega
  have hbBs : ((srcP 124 b A n c bs B)).b < w.heap.size + 1 + 1 + 1 := hbB
  clear hb1 go1 hL HK0 hs0
  obtain ⟨bg, hbg⟩ : ∃ bg, w1.heap.size = bg := ⟨_, rfl⟩
  have hgb : w.heap.size + 1 + 1 + 1 ≤ bg := by omega
  have HG1 := Lib.hid (HK1.out.push #[.int .i64 r, .int .i64 cc, .slice GA L gcp] 41 hbg)
  have HOG := Lib.hid (HO1.out.keep ((Below.refl w1.heap.size w1).alloc (Nat.le_refl _) (.cells #[.int .i64 r, .int .i64 cc, .slice GA L gcp] 41)))
  go_wp2_with fail
  (first | rw [hbg] | skip)
  generalize w1.alloc (.cells #[.int .i64 r, .int .i64 cc, .slice GA L gcp] 41) = wg at *
  clear HK1 HO1 hbg hs1
  go_at_call 79
  with_reducible refine (draw_any b A n c bs B (4) _ ?_ (by omega)).mono ?_
  (focus (first | exact HG1.out.inv | exact HG1.out.drew.inv))
  rintro e2 w2 ⟨u2, rfl, ⟨r2, rfl, hr2a, hr2b⟩, hb2⟩
  have HK2 := Lib.hid (HG1.out.step hb2)
  have HO2 := Lib.hid (HOG.out.bx hb2 hbB)
  clear hb2 HG1 HOG
  go_wp2_with fail
  go_at_call 79
  with_reducible refine (draw_any b A n c bs B (4) _ ?_ (by omega)).mono ?_
  (focus (first | exact HK2.out.inv | exact HK2.out.drew.inv))
  rintro e3 w3 ⟨u3, rfl, ⟨r3, rfl, hr3a, hr3b⟩, hb3⟩
  have HK3 := Lib.hid (HK2.out.step hb3)
  have HO3 := Lib.hid (HO2.out.bx hb3 hbB)
  clear hb3 HK2 HO2
  go_wp2_with fail
  go_at_call 79
  with_reducible refine (draw_any b A n c bs B (3) _ ?_ (by omega)).mono ?_
  (focus (first | exact HK3.out.inv | exact HK3.out.drew.inv))
  rintro e4 w4 ⟨u4, rfl, ⟨r4, rfl, hr4a, hr4b⟩, hb4⟩
  have HK4 := Lib.hid (HK3.out.step hb4)
  have HO4 := Lib.hid (HO3.out.bx hb4 hbB)
  clear hb4 HK3 HO3
  obtain ⟨bx, hbx⟩ : ∃ bx, w4.heap.size = bx := ⟨_, rfl⟩
  have hgz : bg < w4.heap.size := HK4.out.lt (List.mem_cons_self ..)
  have hgzb : bg < bx := by omega
  have HX4 := Lib.hid (HK4.out.push #[.int .i64 (1 + r2), .int .i64 (1 + r3), .int .i64 r4, .int .i64 0, .int .i64 20, .int .i64 200] 53 hbx)
  have HOX := Lib.hid (HO4.out.keep ((Below.refl w4.heap.size w4).alloc (Nat.le_refl _) (.cells #[.int .i64 (1 + r2), .int .i64 (1 + r3), .int .i64 r4, .int .i64 0, .int .i64 20, .int .i64 200] 53)))
  obtain ⟨g0, g1, g2, -⟩ := blk3 (HK4.out.get (List.mem_cons_self ..))
  go_wp2_with fail
  (first | rw [hbx] | skip)
  generalize w4.alloc (.cells #[.int .i64 (1 + r2), .int .i64 (1 + r3), .int .i64 r4, .int .i64 0, .int .i64 20, .int .i64 200] 53) = wx at *
  clear HK4 HO4 g0 g1 g2 hgz hgzb

  have HPG := fun (w' : World) (hb : Below wx.heap.size wx w') => sPrintGrid_any r cc GA L gcp xs (1 + r2) (1 + r3) r4 20 200 w' wx.heap.size ((HOX.out.riS HL.out).below hb) hb.size (by omega)
  have hle := prL_le' (r := r) (c := cc) (xs := xs) (p := 1 + r2) (t := 1 + r3) (q := r4) (d := 20) (l := 200)
  obtain ⟨K, hK⟩ : ∃ K, prK r cc xs (1 + r2) (1 + r3) r4 20 200 = K := ⟨_, rfl⟩
  obtain ⟨PL, hPL⟩ : ∃ PL, prL r cc xs (1 + r2) (1 + r3) r4 20 200 = PL := ⟨_, rfl⟩
  have hKb := Lib.hid (fun h => prK_0q (hK.trans h))
  rw [hPL] at hle
  rw [hPL, hK] at HPG
  generalize gK K ((r + 2 * r4) * (1 + r3)) = PH at HPG
  generalize gK K ((cc + 2 * r4) * (1 + r2)) = PV at HPG
  have HPGh := Lib.hid HPG
  obtain ⟨NP, hNP⟩ : ∃ NP, PL.length = NP := ⟨_, rfl⟩
  rw [hNP] at hle
  have HNP := Lib.hid hNP
  clear HPG hK hPL hNP
  go_at_call 30
  with_reducible refine (HPGh.out _ (Below.refl _ _)).mono ?_
  rintro e5 w5 ⟨v5, rfl, ho5, hb5⟩
  have HK5 := Lib.hid (HX4.out.below hb5)
  obtain ⟨PA, pcp, rfl, -⟩ := ho5.shape
  rw [HNP.out] at ho5 ⊢
  have hxz : w.heap.size + 1 + 1 + 1 ≤ wx.heap.size := by have := HX4.out.lt (g := w.heap.size + 1 + 1) (o := .cells #[.int .i64 (0), .int .i64 (0), .int .i64 (0), .int .i64 (0)] 36 (0, 0)) (by simp); omega
  have HO5 := Lib.hid (ho5.more hxz)
  clear hb5 ho5 HX4 HOX HPGh
  obtain ⟨bp, hbp⟩ : ∃ bp, w5.heap.size = bp := ⟨_, rfl⟩
  have hpb : w.heap.size + 1 + 1 + 1 ≤ bp := by have := HK5.out.lt (g := w.heap.size + 1 + 1) (o := .cells #[.int .i64 (0), .int .i64 (0), .int .i64 (0), .int .i64 (0)] 36 (0, 0)) (by simp); omega
  have HP5 := Lib.hid (HK5.out.push #[.int .i64 PH, .int .i64 PV, .slice PA NP pcp] 32 hbp)
  have HOP := Lib.hid (HO5.out.keep ((Below.refl w5.heap.size w5).alloc (Nat.le_refl _) (.cells #[.int .i64 PH, .int .i64 PV, .slice PA NP pcp] 32)))
  go_upto_region 4 with fail
  (first | rw [hbp] | skip)
  generalize w5.alloc (.cells #[.int .i64 PH, .int .i64 PV, .slice PA NP pcp] 32) = wp at *
  clear HK5 HO5 hbp
  by_cases hK : K = 0
  rotate_left
  · have hK' : (K != 0) = true := by simpa using hK
    clear hKb hK
    go_wp2_with fail
    go_at_call 122
    with_reducible refine (l20Draw_any b A n c bs B _ HP5.out.inv).mono ?_
    rintro e6 w6 ⟨u6, rfl, hdr, hb6⟩
    have HK6 := Lib.hid (HP5.out.step hb6)
    obtain ⟨rr, rc, rv, rx, rfl, rl1, rl2, ro6⟩ := hdr
    obtain ⟨RA, rcp, rfl, -⟩ := ro6.shape
    obtain ⟨LR, hLR⟩ : ∃ L, rx.length = L := ⟨_, rfl⟩
    rw [hLR] at ro6 rl1 rl2 ⊢
    have HLR := Lib.hid hLR
    have hpz : w.heap.size + 1 + 1 + 1 ≤ wp.heap.size := by have := HP5.out.lt (g := w.heap.size + 1 + 1) (o := .cells #[.int .i64 (0), .int .i64 (0), .int .i64 (0), .int .i64 (0)] 36 (0, 0)) (by simp); omega
    have HO6 := Lib.hid (ro6.more hpz)
    clear hb6 ro6 hLR HP5 HOP
    go_wp2_with fail
    go_at_call 123
    with_reducible refine (l25Draw_any b A n c bs B _ HK6.out.inv).mono ?_
    rintro e7 w7 ⟨u7, rfl, ⟨y0, y1, y2, y3, y4, y5, y6, y7, y8, rfl⟩, hb7⟩
    have HK7 := Lib.hid (HK6.out.step hb7)
    have HO7 := Lib.hid (HO6.out.bx hb7 hbB)
    clear hb7 HK6 HO6
    go_wp2_with fail
    go_at_call 124
    with_reducible refine (l26DrawSampling_any b A n c bs B 2 2 _ HK7.out.inv).mono ?_
    rintro e8 w8 ⟨u8, rfl, ⟨z0, z1, z2, z3, rfl⟩, hb8⟩
    have HK8 := Lib.hid (HK7.out.step hb8)
    have HO8 := Lib.hid (HO7.out.bx hb8 hbB)
    clear hb8 HK7 HO7
    have kR := HK8.out.get (g := w.heap.size) (o := .cells #[.int .i64 (0), .int .i64 (0), .slice none 0 0] 32 (0, 0)) (by simp)
    have kM := HK8.out.get (g := w.heap.size + 1) (o := .cells #[.int .i64 (0), .int .i64 (0), .int .i64 (0), .int .i64 (0), .int .i64 (0), .int .i64 (0), .int .i64 (0), .int .i64 (0), .int .i64 (0)] 34 (0, 0)) (by simp)
    have kS := HK8.out.get (g := w.heap.size + 1 + 1) (o := .cells #[.int .i64 (0), .int .i64 (0), .int .i64 (0), .int .i64 (0)] 36 (0, 0)) (by simp)
    have zR := lt_of_block kR
    have zM := lt_of_block kM
    have zS := lt_of_block kS
    obtain ⟨a0, a1, a2, af⟩ := blk3 kR
    obtain ⟨c0, c1, c2, c3, c4, c5, c6, c7, c8, cf⟩ := blk9 kM
    obtain ⟨d0, d1, d2, d3, df⟩ := blk4q kS
    have nRM : w.heap.size ≠ w.heap.size + 1 := by omega
    have nRS : w.heap.size ≠ w.heap.size + 1 + 1 := by omega
    have nMR : w.heap.size + 1 ≠ w.heap.size := by omega
    have nMS : w.heap.size + 1 ≠ w.heap.size + 1 + 1 := by omega
    have nSR : w.heap.size + 1 + 1 ≠ w.heap.size := by omega
    have nSM : w.heap.size + 1 + 1 ≠ w.heap.size + 1 := by omega
    have lR : w.heap.size < w.heap.size + 1 + 1 + 1 := by omega
    have lM : w.heap.size + 1 < w.heap.size + 1 + 1 + 1 := by omega
    have lS : w.heap.size + 1 + 1 < w.heap.size + 1 + 1 + 1 := by omega
    have hbM : b < w.heap.size + 1 := by omega
    have hbS : b < w.heap.size + 1 + 1 := by omega
    have gM : w.heap.size ≤ w.heap.size + 1 := by omega
    have gS : w.heap.size ≤ w.heap.size + 1 + 1 := by omega
    obtain ⟨s0, s1, s2, -⟩ := blk3 (blk_other (k := 3) (u := .int .i64 z3) (blk_other (k := 2) (u := .int .i64 z2) (blk_other (k := 1) (u := .int .i64 z1) (blk_other (k := 0) (u := .int .i64 z0) (blk_other (k := 8) (u := .int .i64 y8) (blk_other (k := 7) (u := .int .i64 y7) (blk_other (k := 6) (u := .int .i64 y6) (blk_other (k := 5) (u := .int .i64 y5) (blk_other (k := 4) (u := .int .i64 y4) (blk_other (k := 3) (u := .int .i64 y3) (blk_other (k := 2) (u := .int .i64 y2) (blk_other (k := 1) (u := .int .i64 y1) (blk_other (k := 0) (u := .int .i64 y0) (blk3_2 (u := .slice RA LR rcp) (blk3_1 (u := .int .i64 rc) (blk3_0 (u := .int .i64 rr) kR))) nRM) nRM) nRM) nRM) nRM) nRM) nRM) nRM) nRM) nRS) nRS) nRS) nRS)
    obtain ⟨t0, t1, t2, t3, t4, t5, t6, t7, t8, -⟩ := blk9 (blk_other (k := 3) (u := .int .i64 z3) (blk_other (k := 2) (u := .int .i64 z2) (blk_other (k := 1) (u := .int .i64 z1) (blk_other (k := 0) (u := .int .i64 z0) (res9 (blk_other (k := 2) (u := .slice RA LR rcp) (blk_other (k := 1) (u := .int .i64 rc) (blk_other (k := 0) (u := .int .i64 rr) kM nMR) nMR) nMR) (.int .i64 y0) (.int .i64 y1) (.int .i64 y2) (.int .i64 y3) (.int .i64 y4) (.int .i64 y5) (.int .i64 y6) (.int .i64 y7) (.int .i64 y8)) nMS) nMS) nMS) nMS)
    obtain ⟨q0, q1, q2, q3, -⟩ := blk4q (res4q (blk_other (k := 8) (u := .int .i64 y8) (blk_other (k := 7) (u := .int .i64 y7) (blk_other (k := 6) (u := .int .i64 y6) (blk_other (k := 5) (u := .int .i64 y5) (blk_other (k := 4) (u := .int .i64 y4) (blk_other (k := 3) (u := .int .i64 y3) (blk_other (k := 2) (u := .int .i64 y2) (blk_other (k := 1) (u := .int .i64 y1) (blk_other (k := 0) (u := .int .i64 y0) (blk_other (k := 2) (u := .slice RA LR rcp) (blk_other (k := 1) (u := .int .i64 rc) (blk_other (k := 0) (u := .int .i64 rr) kS nSR) nSR) nSR) nSM) nSM) nSM) nSM) nSM) nSM) nSM) nSM) nSM) (.int .i64 z0) (.int .i64 z1) (.int .i64 z2) (.int .i64 z3))
    go_wp2_with fail
    (try simp only [Exit.inBlock, Exit.then]); refine bodyPost_ret (by simp [results, Try.results106, go_sem, s0, s1, s2, t0, t1, t2, t3, t4, t5, t6, t7, t8, q0, q1, q2, q3]; try rfl) rfl ?_
    exact ⟨_, rfl, ⟨_, _, _, rx, _, _, _, _, _, _, _, _, _, _, _, _, _, rfl, by rw [HLR.out]; omega, Own.more (Own.setLt (Own.setLt (Own.setLt (Own.setLt (Own.setLt (Own.setLt (Own.setLt (Own.setLt (Own.setLt (Own.setLt (Own.setLt (Own.setLt (Own.setLt (Own.setLt (Own.setLt (Own.setLt HO8.out (p := ⟨w.heap.size, 0, none⟩) lR (.int .i64 rr)) (p := ⟨w.heap.size, 1, none⟩) lR (.int .i64 rc)) (p := ⟨w.heap.size, 2, none⟩) lR (.slice RA LR rcp)) (p := ⟨w.heap.size + 1, 0, none⟩) lM (.int .i64 y0)) (p := ⟨w.heap.size + 1, 1, none⟩) lM (.int .i64 y1)) (p := ⟨w.heap.size + 1, 2, none⟩) lM (.int .i64 y2)) (p := ⟨w.heap.size + 1, 3, none⟩) lM (.int .i64 y3)) (p := ⟨w.heap.size + 1, 4, none⟩) lM (.int .i64 y4)) (p := ⟨w.heap.size + 1, 5, none⟩) lM (.int .i64 y5)) (p := ⟨w.heap.size + 1, 6, none⟩) lM (.int .i64 y6)) (p := ⟨w.heap.size + 1, 7, none⟩) lM (.int .i64 y7)) (p := ⟨w.heap.size + 1, 8, none⟩) lM (.int .i64 y8)) (p := ⟨w.heap.size + 1 + 1, 0, none⟩) lS (.int .i64 z0)) (p := ⟨w.heap.size + 1 + 1, 1, none⟩) lS (.int .i64 z1)) (p := ⟨w.heap.size + 1 + 1, 2, none⟩) lS (.int .i64 z2)) (p := ⟨w.heap.size + 1 + 1, 3, none⟩) lS (.int .i64 z3)) (by omega)⟩, (bxset (k := 3) (u := .int .i64 z3) (bxset (k := 2) (u := .int .i64 z2) (bxset (k := 1) (u := .int .i64 z1) (bxset (k := 0) (u := .int .i64 z0) (bxset (k := 8) (u := .int .i64 y8) (bxset (k := 7) (u := .int .i64 y7) (bxset (k := 6) (u := .int .i64 y6) (bxset (k := 5) (u := .int .i64 y5) (bxset (k := 4) (u := .int .i64 y4) (bxset (k := 3) (u := .int .i64 y3) (bxset (k := 2) (u := .int .i64 y2) (bxset (k := 1) (u := .int .i64 y1) (bxset (k := 0) (u := .int .i64 y0) (bxset (k := 2) (u := .slice RA LR rcp) (bxset (k := 1) (u := .int .i64 rc) (bxset (k := 0) (u := .int .i64 rr) HK8.out.bx hbw (Nat.le_refl _)) hbw (Nat.le_refl _)) hbw (Nat.le_refl _)) hbM gM) hbM gM) hbM gM) hbM gM) hbM gM) hbM gM) hbM gM) hbM gM) hbM gM) hbS gS) hbS gS) hbS gS) hbS gS)⟩


  have hK' : (K != 0) = false := by simpa using hK
  obtain ⟨-, -, -, hps⟩ := hKb.out hK
  obtain ⟨⟨rb1, rb2⟩, ⟨cb1, cb2⟩, -⟩ := psK_0 hps
  clear hKb hK hps
  obtain ⟨Q2, hQ2⟩ : ∃ x, 2 * r4 = x := ⟨_, rfl⟩
  obtain ⟨LL, hLL⟩ : ∃ x, Q2 * (1 + r2) = x := ⟨_, rfl⟩
  obtain ⟨TT, hTT⟩ : ∃ x, Q2 * (1 + r3) = x := ⟨_, rfl⟩
  obtain ⟨C2, hC2⟩ : ∃ x, 2 * cc = x := ⟨_, rfl⟩
  obtain ⟨WW, hWW⟩ : ∃ x, C2 * (1 + r2) = x := ⟨_, rfl⟩
  obtain ⟨R2, hR2⟩ : ∃ x, 2 * r = x := ⟨_, rfl⟩
  obtain ⟨HH, hHH⟩ : ∃ x, R2 * (1 + r3) = x := ⟨_, rfl⟩
  have l1 := mul_rg (a := Q2) (b := 1 + r2) 100 100 (by omega) (by omega) (by omega) (by omega)
  have l2 := mul_rg (a := Q2) (b := 1 + r3) 100 100 (by omega) (by omega) (by omega) (by omega)
  have l3 := mul_rg (a := C2) (b := 1 + r2) 100000 100 (by omega) (by omega) (by omega) (by omega)
  have l4 := mul_rg (a := R2) (b := 1 + r3) 100000 100 (by omega) (by omega) (by omega) (by omega)
  rw [hLL] at l1
  rw [hTT] at l2
  rw [hWW] at l3
  rw [hHH] at l4
  have f1 : IntKind.i64.wrap (2 * r4) = Q2 := by rw [IntKind.wrap_i64]; omega
  have f2 : IntKind.i64.wrap (Q2 * (1 + r2)) = LL := by rw [hLL, IntKind.wrap_i64]; omega
  have f3 : IntKind.i64.wrap (Q2 * (1 + r3)) = TT := by rw [hTT, IntKind.wrap_i64]; omega
  have f4 : IntKind.i64.wrap (2 * cc) = C2 := by rw [IntKind.wrap_i64]; omega
  have f5 : IntKind.i64.wrap (C2 * (1 + r2)) = WW := by rw [hWW, IntKind.wrap_i64]; omega
  have f6 : IntKind.i64.wrap (2 * r) = R2 := by rw [IntKind.wrap_i64]; omega
  have f7 : IntKind.i64.wrap (R2 * (1 + r3)) = HH := by rw [hHH, IntKind.wrap_i64]; omega
  have f8 : IntKind.i64.wrap (LL + WW) = LL + WW := by rw [IntKind.wrap_i64]; omega
  have f9 : IntKind.i64.wrap (TT + HH) = TT + HH := by rw [IntKind.wrap_i64]; omega
  clear hQ2 hLL hTT hC2 hWW hR2 hHH
  obtain ⟨g0, g1, g2, -⟩ := blk3 (HP5.out.get (g := bg) (o := .cells #[.int .i64 r, .int .i64 cc, .slice GA L gcp] 41 (0, 0)) (by simp))
  obtain ⟨x0, x1, x2, x3, x4, x5, -⟩ := blk6p (HP5.out.get (g := bx) (o := .cells #[.int .i64 (1 + r2), .int .i64 (1 + r3), .int .i64 r4, .int .i64 0, .int .i64 20, .int .i64 200] 53 (0, 0)) (by simp))
  have zg := HP5.out.lt (g := bg) (o := .cells #[.int .i64 r, .int .i64 cc, .slice GA L gcp] 41 (0, 0)) (by simp)
  have zx := HP5.out.lt (g := bx) (o := .cells #[.int .i64 (1 + r2), .int .i64 (1 + r3), .int .i64 r4, .int .i64 0, .int .i64 20, .int .i64 200] 53 (0, 0)) (by simp)
  go_wp2_with fail
  go_quiet (fail)
  go_wp2_with fail
  go_quiet (fail)
  clear f1 f2 f3 f4 f5 f6 f7 f8 f9
  go_upto_region 8 with fail
  refine gen_world (P := fun W' => Code.wp _ _ _ _ W') (Q := fun W' => KB (srcP 124 b A n c bs B) w [(bp, .cells #[.int .i64 PH, .int .i64 PV, .slice PA NP pcp] 32 (0, 0)), (bx, .cells #[.int .i64 (1 + r2), .int .i64 (1 + r3), .int .i64 r4, .int .i64 0, .int .i64 20, .int .i64 200] 53 (0, 0)), (bg, .cells #[.int .i64 r, .int .i64 cc, .slice GA L gcp] 41 (0, 0)), (w.heap.size + 1 + 1, .cells #[.int .i64 (0), .int .i64 (0), .int .i64 (0), .int .i64 (0)] 36 (0, 0)), (w.heap.size + 1, .cells #[.int .i64 (0), .int .i64 (0), .int .i64 (0), .int .i64 (0), .int .i64 (0), .int .i64 (0), .int .i64 (0), .int .i64 (0), .int .i64 (0)] 34 (0, 0)), (w.heap.size, .cells #[.int .i64 (0), .int .i64 (0), .slice none 0 0] 32 (0, 0))] W' ∧ Own W' (w.heap.size + 1 + 1 + 1) (.slice PA NP pcp) PL) ?_ ?_
  · exact ⟨(HP5.out.drewN _).drewN _, HOP.out⟩
  rintro wv ⟨hkv, hov⟩
  have HKV := Lib.hid hkv
  have HOV := Lib.hid hov
  clear hkv hov
  go_upto_region 9 with fail
  obtain ⟨bq, hbq⟩ : ∃ bq, wv.heap.size = bq := ⟨_, rfl⟩
  have hqz : w.heap.size + 1 + 1 + 1 ≤ bq := by have := HKV.out.lt (g := w.heap.size + 1 + 1) (o := .cells #[.int .i64 (0), .int .i64 (0), .int .i64 (0), .int .i64 (0)] 36 (0, 0)) (by simp); omega
  refine gen_world (P := fun W' => Code.wp _ _ _ _ W') (Q := fun W' => KL (srcP 124 b A n c bs B) w bq 63 8 [(bp, .cells #[.int .i64 PH, .int .i64 PV, .slice PA NP pcp] 32 (0, 0)), (bx, .cells #[.int .i64 (1 + r2), .int .i64 (1 + r3), .int .i64 r4, .int .i64 0, .int .i64 20, .int .i64 200] 53 (0, 0)), (bg, .cells #[.int .i64 r, .int .i64 cc, .slice GA L gcp] 41 (0, 0)), (w.heap.size + 1 + 1, .cells #[.int .i64 (0), .int .i64 (0), .int .i64 (0), .int .i64 (0)] 36 (0, 0)), (w.heap.size + 1, .cells #[.int .i64 (0), .int .i64 (0), .int .i64 (0), .int .i64 (0), .int .i64 (0), .int .i64 (0), .int .i64 (0), .int .i64 (0), .int .i64 (0)] 34 (0, 0)), (w.heap.size, .cells #[.int .i64 (0), .int .i64 (0), .slice none 0 0] 32 (0, 0))] W' ∧ Own W' (w.heap.size + 1 + 1 + 1) (.slice PA NP pcp) PL) ?_ ?_
  · exact ⟨KL.new HKV.out (xs := [LL, TT, LL + WW, TT, LL + WW, TT + HH, LL, TT + HH]) rfl rfl hbq, HOV.out.keep ((Below.refl _ _).alloc (Nat.le_refl _) _)⟩
  have hneq : (Value.slice PA NP pcp).ownBlock ≠ some bq := fun e => by have := (World.ownsRow.lt HOV.out _ e).2; omega
  rintro wq ⟨hkq, hoq⟩
  have HKQ := Lib.hid hkq
  have HOQ := Lib.hid hoq
  (first | rw [hbq] | skip)
  clear g0 g1 g2 x0 x1 x2 x3 x4 x5 zg zx HP5 HOP HKV HOV hkq hoq hbq l1 l2 l3 l4

  go_wp2_with fail
  go_at_call 79
  with_reducible refine (draw_any b A n c bs B (3) _ ?_ (by omega)).mono ?_
  (focus (first | exact HKQ.out.inv | exact HKQ.out.drew.inv))
  rintro e6 w6 ⟨u6, rfl, ⟨r6, rfl, hr6a, hr6b⟩, hb6⟩
  have HK6 := Lib.hid (HKQ.out.step hb6)
  have HO6 := Lib.hid (HOQ.out.bx hb6 hbB)
  clear hb6
  go_upto_if 83 with (fail)
  go_cut [] (fun wy => Hid (KL (srcP 124 b A n c bs B) w bq 63 8 [(bp, .cells #[.int .i64 PH, .int .i64 PV, .slice PA NP pcp] 32 (0, 0)), (bx, .cells #[.int .i64 (1 + r2), .int .i64 (1 + r3), .int .i64 r4, .int .i64 0, .int .i64 20, .int .i64 200] 53 (0, 0)), (bg, .cells #[.int .i64 r, .int .i64 cc, .slice GA L gcp] 41 (0, 0)), (w.heap.size + 1 + 1, .cells #[.int .i64 (0), .int .i64 (0), .int .i64 (0), .int .i64 (0)] 36 (0, 0)), (w.heap.size + 1, .cells #[.int .i64 (0), .int .i64 (0), .int .i64 (0), .int .i64 (0), .int .i64 (0), .int .i64 (0), .int .i64 (0), .int .i64 (0), .int .i64 (0)] 34 (0, 0)), (w.heap.size, .cells #[.int .i64 (0), .int .i64 (0), .slice none 0 0] 32 (0, 0))] wy ∧ Own wy (w.heap.size + 1 + 1 + 1) (.slice PA NP pcp) PL))
  case first =>
    by_cases h6 : r6 = 0
    · subst h6
      go_wp2_with fail
      go_cut [] (fun wy => Hid (KL (srcP 124 b A n c bs B) w bq 63 8 [(bp, .cells #[.int .i64 PH, .int .i64 PV, .slice PA NP pcp] 32 (0, 0)), (bx, .cells #[.int .i64 (1 + r2), .int .i64 (1 + r3), .int .i64 r4, .int .i64 0, .int .i64 20, .int .i64 200] 53 (0, 0)), (bg, .cells #[.int .i64 r, .int .i64 cc, .slice GA L gcp] 41 (0, 0)), (w.heap.size + 1 + 1, .cells #[.int .i64 (0), .int .i64 (0), .int .i64 (0), .int .i64 (0)] 36 (0, 0)), (w.heap.size + 1, .cells #[.int .i64 (0), .int .i64 (0), .int .i64 (0), .int .i64 (0), .int .i64 (0), .int .i64 (0), .int .i64 (0), .int .i64 (0), .int .i64 (0)] 34 (0, 0)), (w.heap.size, .cells #[.int .i64 (0), .int .i64 (0), .slice none 0 0] 32 (0, 0))] wy ∧ Own wy (w.heap.size + 1 + 1 + 1) (.slice PA NP pcp) PL))
      case first =>
        have fa := HK6.out.ci (k := 2) (by decide)
        have fb := HK6.out.free 2
        go_region_with (go_at_call 79; with_reducible refine (draw_any b A n c bs B (5) _ ?_ (by omega)).mono ?_; (focus (first | exact HK6.out.inv | exact HK6.out.drew.inv)); rintro e8 w8 ⟨u8, rfl, ⟨r8, rfl, hr8a, hr8b⟩, hb8⟩; (first | have HK8 := Lib.hid (HK6.out.step hb8) | have HK8 := Lib.hid (HK6.out.drew.step hb8)); (first | have HO8 := Lib.hid (HO6.out.bx hb8 hbBs) | have HO8 := Lib.hid ((Own.keep HO6.out (Below.refl _ _).drew).bx hb8 hbBs)); have fc := HK8.out.ci (k := 2) (by decide); have fd := HK8.out.free 2; clear hb8)
        all_goals
          go_wp2_with fail
          go_meet
          case rel => exact Lib.hid ⟨HK8.out.set 2 _, Own.setNe HO8.out (p := ⟨bq, 2, none⟩) hneq _⟩
      rename World => v7
      have HS7 := Lib.hid hcut.out.1
      have HT7 := Lib.hid hcut.out.2
      clear hcut
      go_wp2_with fail
      have fa := HS7.out.ci (k := 7) (by decide)
      have fb := HS7.out.free 7
      go_region_with (go_at_call 79; with_reducible refine (draw_any b A n c bs B (5) _ ?_ (by omega)).mono ?_; (focus (first | exact HS7.out.inv | exact HS7.out.drew.inv)); rintro e9 w9 ⟨u9, rfl, ⟨r9, rfl, hr9a, hr9b⟩, hb9⟩; (first | have HK9 := Lib.hid (HS7.out.step hb9) | have HK9 := Lib.hid (HS7.out.drew.step hb9)); (first | have HO9 := Lib.hid (HT7.out.bx hb9 hbBs) | have HO9 := Lib.hid ((Own.keep HT7.out (Below.refl _ _).drew).bx hb9 hbBs)); have fc := HK9.out.ci (k := 7) (by decide); have fd := HK9.out.free 7; clear hb9)
      all_goals
        go_wp2_with fail
        go_meet
        case rel => exact Lib.hid ⟨HK9.out.set 7 _, Own.setNe HO9.out (p := ⟨bq, 7, none⟩) hneq _⟩
    · have h6' : (r6 == 0) = false := by simpa using h6
      go_wp2_with fail
      go_meet
      case rel => exact Lib.hid ⟨HK6.out, HO6.out⟩
  rename World => wr
  have HKR := Lib.hid hcut.out.1
  have HOR := Lib.hid hcut.out.2
  clear hcut HKQ HOQ hneq

  obtain ⟨q0, q1, q2, q3, q4, q5, q6, q7, hkb⟩ := HKR.out.eight
  have HKB := Lib.hid hkb
  clear hkb HKR
  go_wp2_with fail
  go_at_call 123
  with_reducible refine (l25Draw_any b A n c bs B _ HKB.out.inv).mono ?_
  rintro e10 w10 ⟨u10, rfl, ⟨m0, m1, m2, m3, m4, m5, m6, m7, m8, rfl⟩, hb10⟩
  have HK10 := Lib.hid (HKB.out.step hb10)
  have HO10 := Lib.hid (HOR.out.bx hb10 hbB)
  clear hb10 HKB HOR
  go_upto_region 13 with fail
  obtain ⟨bm, hbm⟩ : ∃ bm, w10.heap.size = bm := ⟨_, rfl⟩
  have hmb : w.heap.size + 1 + 1 + 1 ≤ bm := by have := HK10.out.lt (g := w.heap.size + 1 + 1) (o := .cells #[.int .i64 (0), .int .i64 (0), .int .i64 (0), .int .i64 (0)] 36 (0, 0)) (by simp); omega
  have hnem : (Value.slice PA NP pcp).ownBlock ≠ some bm := fun e => by have := (World.ownsRow.lt HO10.out _ e).2; omega
  refine gen_world (P := fun W' => Code.wp _ _ _ _ W') (Q := fun wy => KL (srcP 124 b A n c bs B) w bm 34 9 [(bq, .cells #[.int .i64 q0, .int .i64 q1, .int .i64 q2, .int .i64 q3, .int .i64 q4, .int .i64 q5, .int .i64 q6, .int .i64 q7] 63 (0, 0)), (bp, .cells #[.int .i64 PH, .int .i64 PV, .slice PA NP pcp] 32 (0, 0)), (bx, .cells #[.int .i64 (1 + r2), .int .i64 (1 + r3), .int .i64 r4, .int .i64 0, .int .i64 20, .int .i64 200] 53 (0, 0)), (bg, .cells #[.int .i64 r, .int .i64 cc, .slice GA L gcp] 41 (0, 0)), (w.heap.size + 1 + 1, .cells #[.int .i64 (0), .int .i64 (0), .int .i64 (0), .int .i64 (0)] 36 (0, 0)), (w.heap.size + 1, .cells #[.int .i64 (0), .int .i64 (0), .int .i64 (0), .int .i64 (0), .int .i64 (0), .int .i64 (0), .int .i64 (0), .int .i64 (0), .int .i64 (0)] 34 (0, 0)), (w.heap.size, .cells #[.int .i64 (0), .int .i64 (0), .slice none 0 0] 32 (0, 0))] wy ∧ Own wy (w.heap.size + 1 + 1 + 1) (.slice PA NP pcp) PL) ?_ ?_
  · exact ⟨KL.new HK10.out (xs := [m0, m1, m2, m3, m4, m5, m6, m7, m8]) rfl rfl hbm, HO10.out.keep ((Below.refl _ _).alloc (Nat.le_refl _) _)⟩
  rintro wm ⟨hkm, hom⟩
  have HKM := Lib.hid hkm
  have HOM := Lib.hid hom
  (first | rw [hbm] | skip)
  clear hkm hom HK10 HO10 hbm
  go_cut [110] (fun t wy => ∃ bb : Bool, t = .bool bb ∧ (bb = true → quadB q0 q1 q2 q3 q4 q5 q6 q7 = true) ∧ Hid (KL (srcP 124 b A n c bs B) w bm 34 9 [(bq, .cells #[.int .i64 q0, .int .i64 q1, .int .i64 q2, .int .i64 q3, .int .i64 q4, .int .i64 q5, .int .i64 q6, .int .i64 q7] 63 (0, 0)), (bp, .cells #[.int .i64 PH, .int .i64 PV, .slice PA NP pcp] 32 (0, 0)), (bx, .cells #[.int .i64 (1 + r2), .int .i64 (1 + r3), .int .i64 r4, .int .i64 0, .int .i64 20, .int .i64 200] 53 (0, 0)), (bg, .cells #[.int .i64 r, .int .i64 cc, .slice GA L gcp] 41 (0, 0)), (w.heap.size + 1 + 1, .cells #[.int .i64 (0), .int .i64 (0), .int .i64 (0), .int .i64 (0)] 36 (0, 0)), (w.heap.size + 1, .cells #[.int .i64 (0), .int .i64 (0), .int .i64 (0), .int .i64 (0), .int .i64 (0), .int .i64 (0), .int .i64 (0), .int .i64 (0), .int .i64 (0)] 34 (0, 0)), (w.heap.size, .cells #[.int .i64 (0), .int .i64 (0), .slice none 0 0] 32 (0, 0))] wy ∧ Own wy (w.heap.size + 1 + 1 + 1) (.slice PA NP pcp) PL))
  case first =>
    obtain ⟨qa, qb, qc, qd, qe, qf, qg, qh, -⟩ := blk8 (HKM.out.base.get (g := bq) (o := .cells #[.int .i64 q0, .int .i64 q1, .int .i64 q2, .int .i64 q3, .int .i64 q4, .int .i64 q5, .int .i64 q6, .int .i64 q7] 63 (0, 0)) (by simp))
    have HIQ := Lib.hid (fun w => sIsQuad_any q0 q1 q2 q3 q4 q5 q6 q7 w)
    go_wp2_with fail
    cases hqq : quadB q0 q1 q2 q3 q4 q5 q6 q7
    · rw [hqq] at HIQ
      go_wp2_with (go_at_call 125; with_reducible refine (HIQ.out _).mono ?_; rintro e11 w11 ⟨rfl, hb11⟩)
      go_meet
      case rel => exact ⟨false, rfl, (fun h => by cases h), Lib.hid ⟨HKM.out.below hb11, HOM.out.keep hb11⟩⟩
    · rw [hqq] at HIQ
      go_wp2_with (go_at_call 125; with_reducible refine (HIQ.out _).mono ?_; rintro e11 w11 ⟨rfl, hb11⟩; have HK11 := Lib.hid (HKM.out.below hb11); have HO11 := Lib.hid (HOM.out.keep hb11); clear hb11)
      go_at_call 79
      with_reducible refine (draw_any b A n c bs B (10) _ ?_ (by omega)).mono ?_
      (focus (first | exact HK11.out.inv | exact HK11.out.drew.inv))
      rintro e12 w12 ⟨u12, rfl, ⟨r12, rfl, hr12a, hr12b⟩, hb12⟩
      have HK12 := Lib.hid (HK11.out.step hb12)
      have HO12 := Lib.hid (HO11.out.bx hb12 hbB)
      clear hb12
      by_cases h12 : 0 < r12
      · go_wp2_with fail
        go_meet
        case rel => exact ⟨true, by simp [h12], (fun _ => hqq), Lib.hid ⟨HK12.out, HO12.out⟩⟩
      · go_wp2_with fail
        go_meet
        case rel => exact ⟨false, by simp [h12], (fun h => by cases h), Lib.hid ⟨HK12.out, HO12.out⟩⟩
  rename World => ws
  obtain ⟨bb, rfl, hbb, hkl⟩ := hcut
  have HKS := Lib.hid hkl.out.1
  have HOS := Lib.hid hkl.out.2
  clear hkl HKM HOM
  go_upto_if 110 with (fail)
  go_cut [] (fun wy => Hid (KL (srcP 124 b A n c bs B) w bm 34 9 [(bq, .cells #[.int .i64 q0, .int .i64 q1, .int .i64 q2, .int .i64 q3, .int .i64 q4, .int .i64 q5, .int .i64 q6, .int .i64 q7] 63 (0, 0)), (bp, .cells #[.int .i64 PH, .int .i64 PV, .slice PA NP pcp] 32 (0, 0)), (bx, .cells #[.int .i64 (1 + r2), .int .i64 (1 + r3), .int .i64 r4, .int .i64 0, .int .i64 20, .int .i64 200] 53 (0, 0)), (bg, .cells #[.int .i64 r, .int .i64 cc, .slice GA L gcp] 41 (0, 0)), (w.heap.size + 1 + 1, .cells #[.int .i64 (0), .int .i64 (0), .int .i64 (0), .int .i64 (0)] 36 (0, 0)), (w.heap.size + 1, .cells #[.int .i64 (0), .int .i64 (0), .int .i64 (0), .int .i64 (0), .int .i64 (0), .int .i64 (0), .int .i64 (0), .int .i64 (0), .int .i64 (0)] 34 (0, 0)), (w.heap.size, .cells #[.int .i64 (0), .int .i64 (0), .slice none 0 0] 32 (0, 0))] wy ∧ Own wy (w.heap.size + 1 + 1 + 1) (.slice PA NP pcp) PL))
  case first =>
    cases bb
    · go_wp2_with fail
      go_meet
      case rel => exact Lib.hid ⟨HKS.out, HOS.out⟩
    · obtain ⟨h1, h2, h3, h4, h5⟩ := quadB_true (hbb rfl)
      have M := Lib.hid (fun w => l25Quad_any q0 q1 q2 q3 q4 q5 q6 q7 w h1 h2 h3 h4 (by rw [det_turn]; omega))
      generalize redL (quadE q0 q1 q2 q3 q6 q7 (q0 - q2 + q4 - q6) (q1 - q3 + q5 - q7) (q2 - q4) (q3 - q5) (q6 - q4) (q7 - q5)) = LLs at M
      obtain ⟨qa, qb, qc, qd, qe, qf, qg, qh, -⟩ := blk8 (HKS.out.base.get (g := bq) (o := .cells #[.int .i64 q0, .int .i64 q1, .int .i64 q2, .int .i64 q3, .int .i64 q4, .int .i64 q5, .int .i64 q6, .int .i64 q7] 63 (0, 0)) (by simp))
      clear h1 h2 h3 h4 h5 hbb
      go_wp2_with fail
      go_at_call 126
      with_reducible refine (M.out _).mono ?_
      rintro e13 w13 ⟨rfl, hb13⟩
      have HK13 := Lib.hid (HKS.out.below hb13)
      have HO13 := Lib.hid (HOS.out.keep hb13)
      clear hb13 qa qb qc qd qe qf qg qh M
      have fb := HK13.out.free
      have fe0 := HK13.out.ci (k := 0) (by decide)
      have fe1 := HK13.out.ci (k := 1) (by decide)
      have fe2 := HK13.out.ci (k := 2) (by decide)
      have fe3 := HK13.out.ci (k := 3) (by decide)
      have fe4 := HK13.out.ci (k := 4) (by decide)
      have fe5 := HK13.out.ci (k := 5) (by decide)
      have fe6 := HK13.out.ci (k := 6) (by decide)
      have fe7 := HK13.out.ci (k := 7) (by decide)
      have fe8 := HK13.out.ci (k := 8) (by decide)
      go_wp2_with fail
      go_meet
      case rel => exact Lib.hid ⟨(((((((((HK13.out.set 0 _).set 1 _).set 2 _).set 3 _).set 4 _).set 5 _).set 6 _).set 7 _).set 8 _), (Own.setNe (Own.setNe (Own.setNe (Own.setNe (Own.setNe (Own.setNe (Own.setNe (Own.setNe (Own.setNe HO13.out (p := ⟨bm, 0, none⟩) hnem _) (p := ⟨bm, 1, none⟩) hnem _) (p := ⟨bm, 2, none⟩) hnem _) (p := ⟨bm, 3, none⟩) hnem _) (p := ⟨bm, 4, none⟩) hnem _) (p := ⟨bm, 5, none⟩) hnem _) (p := ⟨bm, 6, none⟩) hnem _) (p := ⟨bm, 7, none⟩) hnem _) (p := ⟨bm, 8, none⟩) hnem _)⟩
  rename World => wz
  have HKT := Lib.hid hcut.out.1
  have HOT := Lib.hid hcut.out.2
  clear hcut HKS HOS hbb hnem
  obtain ⟨y0, y1, y2, y3, y4, y5, y6, y7, y8, hkz⟩ := HKT.out.nine
  have HKZ := Lib.hid hkz
  clear hkz HKT

  have kp := HKZ.out.get (g := bp) (o := .cells #[.int .i64 PH, .int .i64 PV, .slice PA NP pcp] 32 (0, 0)) (by simp)
  have km := HKZ.out.get (g := bm) (o := .cells #[.int .i64 y0, .int .i64 y1, .int .i64 y2, .int .i64 y3, .int .i64 y4, .int .i64 y5, .int .i64 y6, .int .i64 y7, .int .i64 y8] 34 (0, 0)) (by simp)
  have kg := HKZ.out.get (g := bg) (o := .cells #[.int .i64 r, .int .i64 cc, .slice GA L gcp] 41 (0, 0)) (by simp)
  obtain ⟨p0, p1, p2, n0, n1, n2, n3, n4, n5, n6, n7, n8, g0, g1⟩ := tri14 kp km kg
  have npR : bp ≠ w.heap.size := by omega
  have npM : bp ≠ w.heap.size + 1 := by omega
  have npS : bp ≠ w.heap.size + 1 + 1 := by omega
  have nmR : bm ≠ w.heap.size := by omega
  have nmM : bm ≠ w.heap.size + 1 := by omega
  have nmS : bm ≠ w.heap.size + 1 + 1 := by omega
  have ngR : bg ≠ w.heap.size := by omega
  have ngM : bg ≠ w.heap.size + 1 := by omega
  have ngS : bg ≠ w.heap.size + 1 + 1 := by omega
  go_wp2_with fail
  go_region_held3 (fun w' => w'.cell? ⟨bp, 0, none⟩ = some (.int .i64 PH) ∧ w'.cell? ⟨bp, 1, none⟩ = some (.int .i64 PV) ∧ w'.cell? ⟨bp, 2, none⟩ = some (.slice PA NP pcp) ∧ w'.cell? ⟨bm, 0, none⟩ = some (.int .i64 y0) ∧ w'.cell? ⟨bm, 1, none⟩ = some (.int .i64 y1) ∧ w'.cell? ⟨bm, 2, none⟩ = some (.int .i64 y2) ∧ w'.cell? ⟨bm, 3, none⟩ = some (.int .i64 y3) ∧ w'.cell? ⟨bm, 4, none⟩ = some (.int .i64 y4) ∧ w'.cell? ⟨bm, 5, none⟩ = some (.int .i64 y5) ∧ w'.cell? ⟨bm, 6, none⟩ = some (.int .i64 y6) ∧ w'.cell? ⟨bm, 7, none⟩ = some (.int .i64 y7) ∧ w'.cell? ⟨bm, 8, none⟩ = some (.int .i64 y8) ∧ w'.cell? ⟨bg, 0, none⟩ = some (.int .i64 r) ∧ w'.cell? ⟨bg, 1, none⟩ = some (.int .i64 cc))
    (first | with_reducible exact ⟨p0, p1, p2, n0, n1, n2, n3, n4, n5, n6, n7, n8, g0, g1⟩ | with_reducible exact tri14 kp14 km14 kg14 | with_reducible exact tri14 (blk_other (blk_other (blk_other kp14 npR) npR) npR) (blk_other (blk_other (blk_other km14 nmR) nmR) nmR) (blk_other (blk_other (blk_other kg14 ngR) ngR) ngR) | with_reducible exact tri14 (blk_other (blk_other (blk_other (blk_other (blk_other (blk_other (blk_other (blk_other (blk_other (blk_other (blk_other (blk_other kp14 npR) npR) npR) npM) npM) npM) npM) npM) npM) npM) npM) npM) (blk_other (blk_other (blk_other (blk_other (blk_other (blk_other (blk_other (blk_other (blk_other (blk_other (blk_other (blk_other km14 nmR) nmR) nmR) nmM) nmM) nmM) nmM) nmM) nmM) nmM) nmM) nmM) (blk_other (blk_other (blk_other (blk_other (blk_other (blk_other (blk_other (blk_other (blk_other (blk_other (blk_other (blk_other kg14 ngR) ngR) ngR) ngM) ngM) ngM) ngM) ngM) ngM) ngM) ngM) ngM) | with_reducible exact tri14 (blk_other (blk_other (blk_other (blk_other (blk_other (blk_other (blk_other (blk_other (blk_other (blk_other (blk_other (blk_other (blk_other (blk_other (blk_other (blk_other kp14 npR) npR) npR) npM) npM) npM) npM) npM) npM) npM) npM) npM) npS) npS) npS) npS) (blk_other (blk_other (blk_other (blk_other (blk_other (blk_other (blk_other (blk_other (blk_other (blk_other (blk_other (blk_other (blk_other (blk_other (blk_other (blk_other km14 nmR) nmR) nmR) nmM) nmM) nmM) nmM) nmM) nmM) nmM) nmM) nmM) nmS) nmS) nmS) nmS) (blk_other (blk_other (blk_other (blk_other (blk_other (blk_other (blk_other (blk_other (blk_other (blk_other (blk_other (blk_other (blk_other (blk_other (blk_other (blk_other kg14 ngR) ngR) ngR) ngM) ngM) ngM) ngM) ngM) ngM) ngM) ngM) ngM) ngS) ngS) ngS) ngS) | go_keep)
    ((go_at_call 124
      with_reducible refine (l26DrawSampling_any b A n c bs B r cc _ ?_).mono ?_
      (focus (first | exact HKZ.out.inv | exact HKZ.out.drew.inv))
      rintro e14 w14 ⟨u14, rfl, ⟨z0, z1, z2, z3, rfl⟩, hb14⟩
      (first | have HK14 := Lib.hid (HKZ.out.step hb14) | have HK14 := Lib.hid (HKZ.out.drew.step hb14))
      (first | have HO14 := Lib.hid (HOT.out.bx hb14 hbBs) | have HO14 := Lib.hid ((Own.keep HOT.out (Below.refl _ _).drew).bx hb14 hbBs))
      have kp14 := HK14.out.get (g := bp) (o := .cells #[.int .i64 PH, .int .i64 PV, .slice PA NP pcp] 32 (0, 0)) (by simp)
      have km14 := HK14.out.get (g := bm) (o := .cells #[.int .i64 y0, .int .i64 y1, .int .i64 y2, .int .i64 y3, .int .i64 y4, .int .i64 y5, .int .i64 y6, .int .i64 y7, .int .i64 y8] 34 (0, 0)) (by simp)
      have kg14 := HK14.out.get (g := bg) (o := .cells #[.int .i64 r, .int .i64 cc, .slice GA L gcp] 41 (0, 0)) (by simp)
      have kR := HK14.out.get (g := w.heap.size) (o := .cells #[.int .i64 (0), .int .i64 (0), .slice none 0 0] 32 (0, 0)) (by simp)
      have kM := HK14.out.get (g := w.heap.size + 1) (o := .cells #[.int .i64 (0), .int .i64 (0), .int .i64 (0), .int .i64 (0), .int .i64 (0), .int .i64 (0), .int .i64 (0), .int .i64 (0), .int .i64 (0)] 34 (0, 0)) (by simp)
      have kS := HK14.out.get (g := w.heap.size + 1 + 1) (o := .cells #[.int .i64 (0), .int .i64 (0), .int .i64 (0), .int .i64 (0)] 36 (0, 0)) (by simp)
      clear hb14
      obtain ⟨a0, a1, a2, af⟩ := blk3 kR
      obtain ⟨c0, c1, c2, c3, c4, c5, c6, c7, c8, cf⟩ := blk9 kM
      obtain ⟨d0, d1, d2, d3, df⟩ := blk4q kS))
  have nRM : w.heap.size ≠ w.heap.size + 1 := by omega
  have nRS : w.heap.size ≠ w.heap.size + 1 + 1 := by omega
  have nMR : w.heap.size + 1 ≠ w.heap.size := by omega
  have nMS : w.heap.size + 1 ≠ w.heap.size + 1 + 1 := by omega
  have nSR : w.heap.size + 1 + 1 ≠ w.heap.size := by omega
  have nSM : w.heap.size + 1 + 1 ≠ w.heap.size + 1 := by omega
  have lR : w.heap.size < w.heap.size + 1 + 1 + 1 := by omega
  have lM : w.heap.size + 1 < w.heap.size + 1 + 1 + 1 := by omega
  have lS : w.heap.size + 1 + 1 < w.heap.size + 1 + 1 + 1 := by omega
  have hbM : b < w.heap.size + 1 := by omega
  have hbS : b < w.heap.size + 1 + 1 := by omega
  have gM : w.heap.size ≤ w.heap.size + 1 := by omega
  have gS : w.heap.size ≤ w.heap.size + 1 + 1 := by omega
  obtain ⟨s0, s1, s2, -⟩ := blk3 (blk_other (k := 3) (u := .int .i64 z3) (blk_other (k := 2) (u := .int .i64 z2) (blk_other (k := 1) (u := .int .i64 z1) (blk_other (k := 0) (u := .int .i64 z0) (blk_other (k := 8) (u := .int .i64 y8) (blk_other (k := 7) (u := .int .i64 y7) (blk_other (k := 6) (u := .int .i64 y6) (blk_other (k := 5) (u := .int .i64 y5) (blk_other (k := 4) (u := .int .i64 y4) (blk_other (k := 3) (u := .int .i64 y3) (blk_other (k := 2) (u := .int .i64 y2) (blk_other (k := 1) (u := .int .i64 y1) (blk_other (k := 0) (u := .int .i64 y0) (blk3_2 (u := .slice PA NP pcp) (blk3_1 (u := .int .i64 PV) (blk3_0 (u := .int .i64 PH) kR))) nRM) nRM) nRM) nRM) nRM) nRM) nRM) nRM) nRM) nRS) nRS) nRS) nRS)
  obtain ⟨t0, t1, t2, t3, t4, t5, t6, t7, t8, -⟩ := blk9 (blk_other (k := 3) (u := .int .i64 z3) (blk_other (k := 2) (u := .int .i64 z2) (blk_other (k := 1) (u := .int .i64 z1) (blk_other (k := 0) (u := .int .i64 z0) (res9 (blk_other (k := 2) (u := .slice PA NP pcp) (blk_other (k := 1) (u := .int .i64 PV) (blk_other (k := 0) (u := .int .i64 PH) kM nMR) nMR) nMR) (.int .i64 y0) (.int .i64 y1) (.int .i64 y2) (.int .i64 y3) (.int .i64 y4) (.int .i64 y5) (.int .i64 y6) (.int .i64 y7) (.int .i64 y8)) nMS) nMS) nMS) nMS)
  obtain ⟨q0, q1, q2, q3, -⟩ := blk4q (res4q (blk_other (k := 8) (u := .int .i64 y8) (blk_other (k := 7) (u := .int .i64 y7) (blk_other (k := 6) (u := .int .i64 y6) (blk_other (k := 5) (u := .int .i64 y5) (blk_other (k := 4) (u := .int .i64 y4) (blk_other (k := 3) (u := .int .i64 y3) (blk_other (k := 2) (u := .int .i64 y2) (blk_other (k := 1) (u := .int .i64 y1) (blk_other (k := 0) (u := .int .i64 y0) (blk_other (k := 2) (u := .slice PA NP pcp) (blk_other (k := 1) (u := .int .i64 PV) (blk_other (k := 0) (u := .int .i64 PH) kS nSR) nSR) nSR) nSM) nSM) nSM) nSM) nSM) nSM) nSM) nSM) nSM) (.int .i64 z0) (.int .i64 z1) (.int .i64 z2) (.int .i64 z3))
  go_wp2_with fail
  (try simp only [Exit.inBlock, Exit.then]); refine bodyPost_ret (by simp [results, Try.results106, go_sem, s0, s1, s2, t0, t1, t2, t3, t4, t5, t6, t7, t8, q0, q1, q2, q3]; try rfl) rfl ?_
  exact ⟨_, rfl, ⟨_, _, _, PL, _, _, _, _, _, _, _, _, _, _, _, _, _, rfl, by rw [HNP.out]; omega, Own.more (Own.setLt (Own.setLt (Own.setLt (Own.setLt (Own.setLt (Own.setLt (Own.setLt (Own.setLt (Own.setLt (Own.setLt (Own.setLt (Own.setLt (Own.setLt (Own.setLt (Own.setLt (Own.setLt HO14.out (p := ⟨w.heap.size, 0, none⟩) lR (.int .i64 PH)) (p := ⟨w.heap.size, 1, none⟩) lR (.int .i64 PV)) (p := ⟨w.heap.size, 2, none⟩) lR (.slice PA NP pcp)) (p := ⟨w.heap.size + 1, 0, none⟩) lM (.int .i64 y0)) (p := ⟨w.heap.size + 1, 1, none⟩) lM (.int .i64 y1)) (p := ⟨w.heap.size + 1, 2, none⟩) lM (.int .i64 y2)) (p := ⟨w.heap.size + 1, 3, none⟩) lM (.int .i64 y3)) (p := ⟨w.heap.size + 1, 4, none⟩) lM (.int .i64 y4)) (p := ⟨w.heap.size + 1, 5, none⟩) lM (.int .i64 y5)) (p := ⟨w.heap.size + 1, 6, none⟩) lM (.int .i64 y6)) (p := ⟨w.heap.size + 1, 7, none⟩) lM (.int .i64 y7)) (p := ⟨w.heap.size + 1, 8, none⟩) lM (.int .i64 y8)) (p := ⟨w.heap.size + 1 + 1, 0, none⟩) lS (.int .i64 z0)) (p := ⟨w.heap.size + 1 + 1, 1, none⟩) lS (.int .i64 z1)) (p := ⟨w.heap.size + 1 + 1, 2, none⟩) lS (.int .i64 z2)) (p := ⟨w.heap.size + 1 + 1, 3, none⟩) lS (.int .i64 z3)) (by omega)⟩, (bxset (k := 3) (u := .int .i64 z3) (bxset (k := 2) (u := .int .i64 z2) (bxset (k := 1) (u := .int .i64 z1) (bxset (k := 0) (u := .int .i64 z0) (bxset (k := 8) (u := .int .i64 y8) (bxset (k := 7) (u := .int .i64 y7) (bxset (k := 6) (u := .int .i64 y6) (bxset (k := 5) (u := .int .i64 y5) (bxset (k := 4) (u := .int .i64 y4) (bxset (k := 3) (u := .int .i64 y3) (bxset (k := 2) (u := .int .i64 y2) (bxset (k := 1) (u := .int .i64 y1) (bxset (k := 0) (u := .int .i64 y0) (bxset (k := 2) (u := .slice PA NP pcp) (bxset (k := 1) (u := .int .i64 PV) (bxset (k := 0) (u := .int .i64 PH) HK14.out.bx hbw (Nat.le_refl _)) hbw (Nat.le_refl _)) hbw (Nat.le_refl _)) hbM gM) hbM gM) hbM gM) hbM gM) hbM gM) hbM gM) hbM gM) hbM gM) hbM gM) hbS gS) hbS gS) hbS gS) hbS gS)⟩

end Go.Proofs.Ytflpllmbpfdnjaa
namespace Go.Proofs.Ytflpllmbpfdnjaa
set_option linter.unusedSimpArgs false
open Go.RowKit

theorem blk4_0u {w : World} {b t : Nat} {x0 x1 x2 x3 u : Value} (h : w.heap[b]? = some (.cells #[x0, x1, x2, x3] t (0, 0))) : (w.setCell ⟨b, 0, none⟩ u).heap[b]? = some (.cells #[u, x1, x2, x3] t (0, 0)) := by
  have := blk3_set (k := 0) (u := u) h
  simpa using this
theorem tri16 {w : World} {b5 b6 b7 t1 t2 t3 : Nat} {a0 a1 a2 y0 y1 y2 y3 y4 y5 y6 y7 y8 g0 g1 g2 g3 : Value} (h1 : w.heap[b5]? = some (.cells #[a0, a1, a2] t1 (0, 0))) (h2 : w.heap[b6]? = some (.cells #[y0, y1, y2, y3, y4, y5, y6, y7, y8] t2 (0, 0))) (h3 : w.heap[b7]? = some (.cells #[g0, g1, g2, g3] t3 (0, 0))) :
    w.cell? ⟨b5, 0, none⟩ = some a0 ∧ w.cell? ⟨b5, 1, none⟩ = some a1 ∧ w.cell? ⟨b5, 2, none⟩ = some a2 ∧ w.cell? ⟨b6, 0, none⟩ = some y0 ∧ w.cell? ⟨b6, 1, none⟩ = some y1 ∧ w.cell? ⟨b6, 2, none⟩ = some y2 ∧ w.cell? ⟨b6, 3, none⟩ = some y3 ∧ w.cell? ⟨b6, 4, none⟩ = some y4 ∧ w.cell? ⟨b6, 5, none⟩ = some y5 ∧ w.cell? ⟨b6, 6, none⟩ = some y6 ∧ w.cell? ⟨b6, 7, none⟩ = some y7 ∧ w.cell? ⟨b6, 8, none⟩ = some y8 ∧ w.cell? ⟨b7, 0, none⟩ = some g0 ∧ w.cell? ⟨b7, 1, none⟩ = some g1 ∧ w.cell? ⟨b7, 2, none⟩ = some g2 ∧ w.cell? ⟨b7, 3, none⟩ = some g3 := by
  obtain ⟨x0, x1, x2, -⟩ := blk3 h1
  obtain ⟨z0, z1, z2, z3, z4, z5, z6, z7, z8, -⟩ := blk9 h2
  obtain ⟨u0, u1, u2, u3, -⟩ := blk4q h3
  exact ⟨x0, x1, x2, z0, z1, z2, z3, z4, z5, z6, z7, z8, u0, u1, u2, u3⟩
theorem tri16d {w : World} {b5 b6 b7 t1 t2 t3 : Nat} {a0 a1 a2 y0 y1 y2 y3 y4 y5 y6 y7 y8 g0 g1 g2 g3 : Value} (h1 : w.heap[b5]? = some (.cells #[a0, a1, a2] t1 (0, 0))) (h2 : w.heap[b6]? = some (.cells #[y0, y1, y2, y3, y4, y5, y6, y7, y8] t2 (0, 0))) (h3 : w.heap[b7]? = some (.cells #[g0, g1, g2, g3] t3 (0, 0))) :
    w.drew.cell? ⟨b5, 0, none⟩ = some a0 ∧ w.drew.cell? ⟨b5, 1, none⟩ = some a1 ∧ w.drew.cell? ⟨b5, 2, none⟩ = some a2 ∧ w.drew.cell? ⟨b6, 0, none⟩ = some y0 ∧ w.drew.cell? ⟨b6, 1, none⟩ = some y1 ∧ w.drew.cell? ⟨b6, 2, none⟩ = some y2 ∧ w.drew.cell? ⟨b6, 3, none⟩ = some y3 ∧ w.drew.cell? ⟨b6, 4, none⟩ = some y4 ∧ w.drew.cell? ⟨b6, 5, none⟩ = some y5 ∧ w.drew.cell? ⟨b6, 6, none⟩ = some y6 ∧ w.drew.cell? ⟨b6, 7, none⟩ = some y7 ∧ w.drew.cell? ⟨b6, 8, none⟩ = some y8 ∧ w.drew.cell? ⟨b7, 0, none⟩ = some g0 ∧ w.drew.cell? ⟨b7, 1, none⟩ = some g1 ∧ w.drew.cell? ⟨b7, 2, none⟩ = some g2 ∧ w.drew.cell? ⟨b7, 3, none⟩ = some g3 :=
  tri16 (w := w.drew) h1 h2 h3
set_option maxRecDepth 20000 in
set_option maxHeartbeats 20000000 in
theorem l26DrawSmall_any (b : Nat) (A : Option Addr) (n c : Nat) (bs : List Int) (B : Nat) (w : World) (hI : (srcP 124 b A n c bs B).I w) :
    Calls Try.prog 78 #[.pointer (some ⟨b, 0, none⟩)] w fun e w' =>
      ∃ u, e = .returned u ∧ (∃ (pr pc : Int) (v : Value) (xs : List Int) (y0 y1 y2 y3 y4 y5 y6 y7 y8 z0 z1 z2 z3 : Int), u = .tuple #[.agg #[.int .i64 pr, .int .i64 pc, v], .agg #[.int .i64 y0, .int .i64 y1, .int .i64 y2, .int .i64 y3, .int .i64 y4, .int .i64 y5, .int .i64 y6, .int .i64 y7, .int .i64 y8], .agg #[.int .i64 z0, .int .i64 z1, .int .i64 z2, .int .i64 z3]] ∧ xs.length ≤ 40000 ∧ Own w' w.heap.size v xs) ∧ BX (srcP 124 b A n c bs B) w.heap.size w w' := by
  have hbw := srcP_lt hI
  have HK0 : Hid (KB (srcP 124 b A n c bs B) w [(w.heap.size + 1 + 1, .cells #[.int .i64 (0), .int .i64 (0), .int .i64 (0), .int .i64 (0)] 36 (0, 0)), (w.heap.size + 1, .cells #[.int .i64 (0), .int .i64 (0), .int .i64 (0), .int .i64 (0), .int .i64 (0), .int .i64 (0), .int .i64 (0), .int .i64 (0), .int .i64 (0)] 34 (0, 0)), (w.heap.size, .cells #[.int .i64 (0), .int .i64 (0), .slice none 0 0] 32 (0, 0))] (((w.alloc (.cells #[.int .i64 (0), .int .i64 (0), .slice none 0 0] 32)).alloc (.cells #[.int .i64 (0), .int .i64 (0), .int .i64 (0), .int .i64 (0), .int .i64 (0), .int .i64 (0), .int .i64 (0), .int .i64 (0), .int .i64 (0)] 34)).alloc (.cells #[.int .i64 (0), .int .i64 (0), .int .i64 (0), .int .i64 (0)] 36))) := Lib.hid ((((KB.nil hI).push _ _ rfl).push _ _ (by simp)).push _ _ (by simp))
  have hs0 : (((w.alloc (.cells #[.int .i64 (0), .int .i64 (0), .slice none 0 0] 32)).alloc (.cells #[.int .i64 (0), .int .i64 (0), .int .i64 (0), .int .i64 (0), .int .i64 (0), .int .i64 (0), .int .i64 (0), .int .i64 (0), .int .i64 (0)] 34)).alloc (.cells #[.int .i64 (0), .int .i64 (0), .int .i64 (0), .int .i64 (0)] 36)).heap.size = w.heap.size + 1 + 1 + 1 := by simp
  have hbB : b < w.heap.size + 1 + 1 + 1 := by omega
  clear hI
  go_enter Try.func78, Try.ntmps78
  go_wp2_with fail
  generalize (((w.alloc (.cells #[.int .i64 (0), .int .i64 (0), .slice none 0 0] 32)).alloc (.cells #[.int .i64 (0), .int .i64 (0), .int .i64 (0), .int .i64 (0), .int .i64 (0), .int .i64 (0), .int .i64 (0), .int .i64 (0), .int .i64 (0)] 34)).alloc (.cells #[.int .i64 (0), .int .i64 (0), .int .i64 (0), .int .i64 (0)] 36)) = wa at *
  go_at_call 106
  with_reducible refine (l26Draw_any b A n c bs B _ HK0.out.inv).mono ?_
  rintro e1 w1 ⟨u1, rfl, hdr, hb1⟩
  have HK1 := Lib.hid (HK0.out.step hb1)
  have hs1 := hb1.size
  rw [hs0] at hdr hs1
  obtain ⟨pr, pc, pv, xs, y0, y1, y2, y3, y4, y5, y6, y7, y8, z0, z1, z2, z3, rfl, hle, ho1⟩ := hdr
  obtain ⟨PA, pcp, rfl, -⟩ := ho1.shape
  obtain ⟨NP, hNP⟩ : ∃ L, xs.length = L := ⟨_, rfl⟩
  rw [hNP] at ho1 hle ⊢
  have HL := Lib.hid hNP
  have HO1 := Lib.hid ho1
  clear hb1 ho1 hNP HK0 hs0
  go_upto_region 2 with fail
  obtain ⟨b5, hb5⟩ : ∃ x, w1.heap.size = x := ⟨_, rfl⟩
  obtain ⟨b6, hb6⟩ : ∃ x, w1.heap.size + 1 = x := ⟨_, rfl⟩
  obtain ⟨b7, hb7⟩ : ∃ x, w1.heap.size + 1 + 1 = x := ⟨_, rfl⟩
  have hsz5 : w.heap.size + 1 + 1 + 1 ≤ b5 ∧ b5 < b6 ∧ b6 < b7 := by omega
  refine gen_world (P := fun W' => Code.wp _ _ _ _ W') (Q := fun W' => KB (srcP 124 b A n c bs B) w [(b7, .cells #[.int .i64 z0, .int .i64 z1, .int .i64 z2, .int .i64 z3] 36 (0, 0)), (b6, .cells #[.int .i64 y0, .int .i64 y1, .int .i64 y2, .int .i64 y3, .int .i64 y4, .int .i64 y5, .int .i64 y6, .int .i64 y7, .int .i64 y8] 34 (0, 0)), (b5, .cells #[.int .i64 pr, .int .i64 pc, .slice PA NP pcp] 32 (0, 0)), (w.heap.size + 1 + 1, .cells #[.int .i64 (0), .int .i64 (0), .int .i64 (0), .int .i64 (0)] 36 (0, 0)), (w.heap.size + 1, .cells #[.int .i64 (0), .int .i64 (0), .int .i64 (0), .int .i64 (0), .int .i64 (0), .int .i64 (0), .int .i64 (0), .int .i64 (0), .int .i64 (0)] 34 (0, 0)), (w.heap.size, .cells #[.int .i64 (0), .int .i64 (0), .slice none 0 0] 32 (0, 0))] W' ∧ Own W' (w.heap.size + 1 + 1 + 1) (.slice PA NP pcp) xs ∧ ∀ k, (Value.slice PA NP pcp).ownBlock = some k → k < b5) ?_ ?_
  · exact ⟨((HK1.out.push _ _ hb5).push _ _ (by simpa using hb6)).push _ _ (by simpa using hb7), HO1.out.keep ((((Below.refl _ _).alloc (Nat.le_refl _) _).alloc (by simp) _).alloc (by simp; omega) _), fun k e => by have := (World.ownsRow.lt HO1.out _ e).2; omega⟩
  rintro wq ⟨hkq, hoq, hrow⟩
  have HKQ := Lib.hid hkq
  have HOQ := Lib.hid hoq
  rw [hb7, hb6, hb5]
  clear hkq hoq hb5 hb6 hb7 HK1 HO1 hs1
  obtain ⟨g0, g1, g2, g3, gf⟩ := blk4q (HKQ.out.get (g := b7) (o := .cells #[.int .i64 z0, .int .i64 z1, .int .i64 z2, .int .i64 z3] 36 (0, 0)) (by simp))
  have HIN := Lib.hid (fun w => l01In_any z0 41 3500 w)
  cases hin : inR z0 41 3500
  · rw [hin] at HIN
    have HKZ := HKQ
    have HOZ := HOQ
    go_upto_region 4 with (go_at_call 44; with_reducible refine (HIN.out _).mono ?_; rintro e' w' ⟨rfl, rfl⟩)
    clear g0 g1 g2 g3 gf HIN hin
    have kg := HKZ.out.get (g := b7) (o := .cells #[.int .i64 z0, .int .i64 z1, .int .i64 z2, .int .i64 z3] 36 (0, 0)) (by simp)
    have kp := HKZ.out.get (g := b5) (o := .cells #[.int .i64 pr, .int .i64 pc, .slice PA NP pcp] 32 (0, 0)) (by simp)
    have km := HKZ.out.get (g := b6) (o := .cells #[.int .i64 y0, .int .i64 y1, .int .i64 y2, .int .i64 y3, .int .i64 y4, .int .i64 y5, .int .i64 y6, .int .i64 y7, .int .i64 y8] 34 (0, 0)) (by simp)
    have kR := HKZ.out.get (g := w.heap.size) (o := .cells #[.int .i64 (0), .int .i64 (0), .slice none 0 0] 32 (0, 0)) (by simp)
    have kM := HKZ.out.get (g := w.heap.size + 1) (o := .cells #[.int .i64 (0), .int .i64 (0), .int .i64 (0), .int .i64 (0), .int .i64 (0), .int .i64 (0), .int .i64 (0), .int .i64 (0), .int .i64 (0)] 34 (0, 0)) (by simp)
    have kS := HKZ.out.get (g := w.heap.size + 1 + 1) (o := .cells #[.int .i64 (0), .int .i64 (0), .int .i64 (0), .int .i64 (0)] 36 (0, 0)) (by simp)
    obtain ⟨p0, p1, p2, n0, n1, n2, n3, n4, n5, n6, n7, n8, g0, g1, g2, g3⟩ := tri16 kp km kg
    obtain ⟨a0, a1, a2, af⟩ := blk3 kR
    obtain ⟨c0, c1, c2, c3, c4, c5, c6, c7, c8, cf⟩ := blk9 kM
    obtain ⟨d0, d1, d2, d3, df⟩ := blk4q kS
    have npR : b5 ≠ w.heap.size := by omega
    have npM : b5 ≠ w.heap.size + 1 := by omega
    have npS : b5 ≠ w.heap.size + 1 + 1 := by omega
    have nmR : b6 ≠ w.heap.size := by omega
    have nmM : b6 ≠ w.heap.size + 1 := by omega
    have nmS : b6 ≠ w.heap.size + 1 + 1 := by omega
    have ngR : b7 ≠ w.heap.size := by omega
    have ngM : b7 ≠ w.heap.size + 1 := by omega
    have ngS : b7 ≠ w.heap.size + 1 + 1 := by omega
    go_wp2_with fail
    go_region_held3 (fun w' => w'.cell? ⟨b5, 0, none⟩ = some (.int .i64 pr) ∧ w'.cell? ⟨b5, 1, none⟩ = some (.int .i64 pc) ∧ w'.cell? ⟨b5, 2, none⟩ = some (.slice PA NP pcp) ∧ w'.cell? ⟨b6, 0, none⟩ = some (.int .i64 y0) ∧ w'.cell? ⟨b6, 1, none⟩ = some (.int .i64 y1) ∧ w'.cell? ⟨b6, 2, none⟩ = some (.int .i64 y2) ∧ w'.cell? ⟨b6, 3, none⟩ = some (.int .i64 y3) ∧ w'.cell? ⟨b6, 4, none⟩ = some (.int .i64 y4) ∧ w'.cell? ⟨b6, 5, none⟩ = some (.int .i64 y5) ∧ w'.cell? ⟨b6, 6, none⟩ = some (.int .i64 y6) ∧ w'.cell? ⟨b6, 7, none⟩ = some (.int .i64 y7) ∧ w'.cell? ⟨b6, 8, none⟩ = some (.int .i64 y8) ∧ w'.cell? ⟨b7, 0, none⟩ = some (.int .i64 z0) ∧ w'.cell? ⟨b7, 1, none⟩ = some (.int .i64 z1) ∧ w'.cell? ⟨b7, 2, none⟩ = some (.int .i64 z2) ∧ w'.cell? ⟨b7, 3, none⟩ = some (.int .i64 z3))
      (first | with_reducible exact ⟨p0, p1, p2, n0, n1, n2, n3, n4, n5, n6, n7, n8, g0, g1, g2, g3⟩ | with_reducible exact tri16 (blk_other (blk_other (blk_other kp npR) npR) npR) (blk_other (blk_other (blk_other km nmR) nmR) nmR) (blk_other (blk_other (blk_other kg ngR) ngR) ngR) | with_reducible exact tri16 (blk_other (blk_other (blk_other (blk_other (blk_other (blk_other (blk_other (blk_other (blk_other (blk_other (blk_other (blk_other kp npR) npR) npR) npM) npM) npM) npM) npM) npM) npM) npM) npM) (blk_other (blk_other (blk_other (blk_other (blk_other (blk_other (blk_other (blk_other (blk_other (blk_other (blk_other (blk_other km nmR) nmR) nmR) nmM) nmM) nmM) nmM) nmM) nmM) nmM) nmM) nmM) (blk_other (blk_other (blk_other (blk_other (blk_other (blk_other (blk_other (blk_other (blk_other (blk_other (blk_other (blk_other kg ngR) ngR) ngR) ngM) ngM) ngM) ngM) ngM) ngM) ngM) ngM) ngM) | with_reducible exact tri16 (blk_other (blk_other (blk_other (blk_other (blk_other (blk_other (blk_other (blk_other (blk_other (blk_other (blk_other (blk_other (blk_other (blk_other (blk_other (blk_other kp npR) npR) npR) npM) npM) npM) npM) npM) npM) npM) npM) npM) npS) npS) npS) npS) (blk_other (blk_other (blk_other (blk_other (blk_other (blk_other (blk_other (blk_other (blk_other (blk_other (blk_other (blk_other (blk_other (blk_other (blk_other (blk_other km nmR) nmR) nmR) nmM) nmM) nmM) nmM) nmM) nmM) nmM) nmM) nmM) nmS) nmS) nmS) nmS) (blk_other (blk_other (blk_other (blk_other (blk_other (blk_other (blk_other (blk_other (blk_other (blk_other (blk_other (blk_other (blk_other (blk_other (blk_other (blk_other kg ngR) ngR) ngR) ngM) ngM) ngM) ngM) ngM) ngM) ngM) ngM) ngM) ngS) ngS) ngS) ngS) | with_reducible exact tri16d (blk_other (blk_other (blk_other kp npR) npR) npR) (blk_other (blk_other (blk_other km nmR) nmR) nmR) (blk_other (blk_other (blk_other kg ngR) ngR) ngR) | with_reducible exact tri16d (blk_other (blk_other (blk_other (blk_other (blk_other (blk_other (blk_other (blk_other (blk_other (blk_other (blk_other (blk_other kp npR) npR) npR) npM) npM) npM) npM) npM) npM) npM) npM) npM) (blk_other (blk_other (blk_other (blk_other (blk_other (blk_other (blk_other (blk_other (blk_other (blk_other (blk_other (blk_other km nmR) nmR) nmR) nmM) nmM) nmM) nmM) nmM) nmM) nmM) nmM) nmM) (blk_other (blk_other (blk_other (blk_other (blk_other (blk_other (blk_other (blk_other (blk_other (blk_other (blk_other (blk_other kg ngR) ngR) ngR) ngM) ngM) ngM) ngM) ngM) ngM) ngM) ngM) ngM) | with_reducible exact tri16d (blk_other (blk_other (blk_other (blk_other (blk_other (blk_other (blk_other (blk_other (blk_other (blk_other (blk_other (blk_other (blk_other (blk_other (blk_other (blk_other kp npR) npR) npR) npM) npM) npM) npM) npM) npM) npM) npM) npM) npS) npS) npS) npS) (blk_other (blk_other (blk_other (blk_other (blk_other (blk_other (blk_other (blk_other (blk_other (blk_other (blk_other (blk_other (blk_other (blk_other (blk_other (blk_other km nmR) nmR) nmR) nmM) nmM) nmM) nmM) nmM) nmM) nmM) nmM) nmM) nmS) nmS) nmS) nmS) (blk_other (blk_other (blk_other (blk_other (blk_other (blk_other (blk_other (blk_other (blk_other (blk_other (blk_other (blk_other (blk_other (blk_other (blk_other (blk_other kg ngR) ngR) ngR) ngM) ngM) ngM) ngM) ngM) ngM) ngM) ngM) ngM) ngS) ngS) ngS) ngS) | go_keep)
      (fail)
    have nRM : w.heap.size ≠ w.heap.size + 1 := by omega
    have nRS : w.heap.size ≠ w.heap.size + 1 + 1 := by omega
    have nMR : w.heap.size + 1 ≠ w.heap.size := by omega
    have nMS : w.heap.size + 1 ≠ w.heap.size + 1 + 1 := by omega
    have nSR : w.heap.size + 1 + 1 ≠ w.heap.size := by omega
    have nSM : w.heap.size + 1 + 1 ≠ w.heap.size + 1 := by omega
    have lR : w.heap.size < w.heap.size + 1 + 1 + 1 := by omega
    have lM : w.heap.size + 1 < w.heap.size + 1 + 1 + 1 := by omega
    have lS : w.heap.size + 1 + 1 < w.heap.size + 1 + 1 + 1 := by omega
    have hbM : b < w.heap.size + 1 := by omega
    have hbS : b < w.heap.size + 1 + 1 := by omega
    have gM : w.heap.size ≤ w.heap.size + 1 := by omega
    have gS : w.heap.size ≤ w.heap.size + 1 + 1 := by omega
    obtain ⟨s0, s1, s2, -⟩ := blk3 (blk_other (k := 3) (u := .int .i64 z3) (blk_other (k := 2) (u := .int .i64 z2) (blk_other (k := 1) (u := .int .i64 z1) (blk_other (k := 0) (u := .int .i64 z0) (blk_other (k := 8) (u := .int .i64 y8) (blk_other (k := 7) (u := .int .i64 y7) (blk_other (k := 6) (u := .int .i64 y6) (blk_other (k := 5) (u := .int .i64 y5) (blk_other (k := 4) (u := .int .i64 y4) (blk_other (k := 3) (u := .int .i64 y3) (blk_other (k := 2) (u := .int .i64 y2) (blk_other (k := 1) (u := .int .i64 y1) (blk_other (k := 0) (u := .int .i64 y0) (blk3_2 (u := .slice PA NP pcp) (blk3_1 (u := .int .i64 pc) (blk3_0 (u := .int .i64 pr) kR))) nRM) nRM) nRM) nRM) nRM) nRM) nRM) nRM) nRM) nRS) nRS) nRS) nRS)
    obtain ⟨t0, t1, t2, t3, t4, t5, t6, t7, t8, -⟩ := blk9 (blk_other (k := 3) (u := .int .i64 z3) (blk_other (k := 2) (u := .int .i64 z2) (blk_other (k := 1) (u := .int .i64 z1) (blk_other (k := 0) (u := .int .i64 z0) (res9 (blk_other (k := 2) (u := .slice PA NP pcp) (blk_other (k := 1) (u := .int .i64 pc) (blk_other (k := 0) (u := .int .i64 pr) kM nMR) nMR) nMR) (.int .i64 y0) (.int .i64 y1) (.int .i64 y2) (.int .i64 y3) (.int .i64 y4) (.int .i64 y5) (.int .i64 y6) (.int .i64 y7) (.int .i64 y8)) nMS) nMS) nMS) nMS)
    obtain ⟨q0, q1, q2, q3, -⟩ := blk4q (res4q (blk_other (k := 8) (u := .int .i64 y8) (blk_other (k := 7) (u := .int .i64 y7) (blk_other (k := 6) (u := .int .i64 y6) (blk_other (k := 5) (u := .int .i64 y5) (blk_other (k := 4) (u := .int .i64 y4) (blk_other (k := 3) (u := .int .i64 y3) (blk_other (k := 2) (u := .int .i64 y2) (blk_other (k := 1) (u := .int .i64 y1) (blk_other (k := 0) (u := .int .i64 y0) (blk_other (k := 2) (u := .slice PA NP pcp) (blk_other (k := 1) (u := .int .i64 pc) (blk_other (k := 0) (u := .int .i64 pr) kS nSR) nSR) nSR) nSM) nSM) nSM) nSM) nSM) nSM) nSM) nSM) nSM) (.int .i64 z0) (.int .i64 z1) (.int .i64 z2) (.int .i64 z3))
    go_wp2_with fail
    (try simp only [Exit.inBlock, Exit.then]); refine bodyPost_ret (by simp [results, Try.results78, go_sem, s0, s1, s2, t0, t1, t2, t3, t4, t5, t6, t7, t8, q0, q1, q2, q3]; try rfl) rfl ?_
    first
      | (with_reducible exact ⟨_, rfl, ⟨_, _, _, xs, _, _, _, _, _, _, _, _, _, _, _, _, _, rfl, by rw [HL.out]; exact hle, Own.more (Own.setLt (Own.setLt (Own.setLt (Own.setLt (Own.setLt (Own.setLt (Own.setLt (Own.setLt (Own.setLt (Own.setLt (Own.setLt (Own.setLt (Own.setLt (Own.setLt (Own.setLt (Own.setLt HOZ.out (p := ⟨w.heap.size, 0, none⟩) lR (.int .i64 pr)) (p := ⟨w.heap.size, 1, none⟩) lR (.int .i64 pc)) (p := ⟨w.heap.size, 2, none⟩) lR (.slice PA NP pcp)) (p := ⟨w.heap.size + 1, 0, none⟩) lM (.int .i64 y0)) (p := ⟨w.heap.size + 1, 1, none⟩) lM (.int .i64 y1)) (p := ⟨w.heap.size + 1, 2, none⟩) lM (.int .i64 y2)) (p := ⟨w.heap.size + 1, 3, none⟩) lM (.int .i64 y3)) (p := ⟨w.heap.size + 1, 4, none⟩) lM (.int .i64 y4)) (p := ⟨w.heap.size + 1, 5, none⟩) lM (.int .i64 y5)) (p := ⟨w.heap.size + 1, 6, none⟩) lM (.int .i64 y6)) (p := ⟨w.heap.size + 1, 7, none⟩) lM (.int .i64 y7)) (p := ⟨w.heap.size + 1, 8, none⟩) lM (.int .i64 y8)) (p := ⟨w.heap.size + 1 + 1, 0, none⟩) lS (.int .i64 z0)) (p := ⟨w.heap.size + 1 + 1, 1, none⟩) lS (.int .i64 z1)) (p := ⟨w.heap.size + 1 + 1, 2, none⟩) lS (.int .i64 z2)) (p := ⟨w.heap.size + 1 + 1, 3, none⟩) lS (.int .i64 z3)) (by omega)⟩, (bxset (k := 3) (u := .int .i64 z3) (bxset (k := 2) (u := .int .i64 z2) (bxset (k := 1) (u := .int .i64 z1) (bxset (k := 0) (u := .int .i64 z0) (bxset (k := 8) (u := .int .i64 y8) (bxset (k := 7) (u := .int .i64 y7) (bxset (k := 6) (u := .int .i64 y6) (bxset (k := 5) (u := .int .i64 y5) (bxset (k := 4) (u := .int .i64 y4) (bxset (k := 3) (u := .int .i64 y3) (bxset (k := 2) (u := .int .i64 y2) (bxset (k := 1) (u := .int .i64 y1) (bxset (k := 0) (u := .int .i64 y0) (bxset (k := 2) (u := .slice PA NP pcp) (bxset (k := 1) (u := .int .i64 pc) (bxset (k := 0) (u := .int .i64 pr) HKZ.out.bx hbw (Nat.le_refl _)) hbw (Nat.le_refl _)) hbw (Nat.le_refl _)) hbM gM) hbM gM) hbM gM) hbM gM) hbM gM) hbM gM) hbM gM) hbM gM) hbM gM) hbS gS) hbS gS) hbS gS) hbS gS)⟩)
      | exact ⟨_, rfl, ⟨_, _, _, xs, _, _, _, _, _, _, _, _, _, _, _, _, _, rfl, by rw [HL.out]; exact hle, Own.more (Own.keep (Own.setLt (Own.setLt (Own.setLt (Own.setLt (Own.setLt (Own.setLt (Own.setLt (Own.setLt (Own.setLt (Own.setLt (Own.setLt (Own.setLt (Own.setLt (Own.setLt (Own.setLt (Own.setLt HOZ.out (p := ⟨w.heap.size, 0, none⟩) lR (.int .i64 pr)) (p := ⟨w.heap.size, 1, none⟩) lR (.int .i64 pc)) (p := ⟨w.heap.size, 2, none⟩) lR (.slice PA NP pcp)) (p := ⟨w.heap.size + 1, 0, none⟩) lM (.int .i64 y0)) (p := ⟨w.heap.size + 1, 1, none⟩) lM (.int .i64 y1)) (p := ⟨w.heap.size + 1, 2, none⟩) lM (.int .i64 y2)) (p := ⟨w.heap.size + 1, 3, none⟩) lM (.int .i64 y3)) (p := ⟨w.heap.size + 1, 4, none⟩) lM (.int .i64 y4)) (p := ⟨w.heap.size + 1, 5, none⟩) lM (.int .i64 y5)) (p := ⟨w.heap.size + 1, 6, none⟩) lM (.int .i64 y6)) (p := ⟨w.heap.size + 1, 7, none⟩) lM (.int .i64 y7)) (p := ⟨w.heap.size + 1, 8, none⟩) lM (.int .i64 y8)) (p := ⟨w.heap.size + 1 + 1, 0, none⟩) lS (.int .i64 z0)) (p := ⟨w.heap.size + 1 + 1, 1, none⟩) lS (.int .i64 z1)) (p := ⟨w.heap.size + 1 + 1, 2, none⟩) lS (.int .i64 z2)) (p := ⟨w.heap.size + 1 + 1, 3, none⟩) lS (.int .i64 z3)) (Below.refl _ _).drew) (by omega)⟩, (BX.drew (bxset (k := 3) (u := .int .i64 z3) (bxset (k := 2) (u := .int .i64 z2) (bxset (k := 1) (u := .int .i64 z1) (bxset (k := 0) (u := .int .i64 z0) (bxset (k := 8) (u := .int .i64 y8) (bxset (k := 7) (u := .int .i64 y7) (bxset (k := 6) (u := .int .i64 y6) (bxset (k := 5) (u := .int .i64 y5) (bxset (k := 4) (u := .int .i64 y4) (bxset (k := 3) (u := .int .i64 y3) (bxset (k := 2) (u := .int .i64 y2) (bxset (k := 1) (u := .int .i64 y1) (bxset (k := 0) (u := .int .i64 y0) (bxset (k := 2) (u := .slice PA NP pcp) (bxset (k := 1) (u := .int .i64 pc) (bxset (k := 0) (u := .int .i64 pr) HKZ.out.bx hbw (Nat.le_refl _)) hbw (Nat.le_refl _)) hbw (Nat.le_refl _)) hbM gM) hbM gM) hbM gM) hbM gM) hbM gM) hbM gM) hbM gM) hbM gM) hbM gM) hbS gS) hbS gS) hbS gS) hbS gS))⟩

  · rw [hin] at HIN
    go_upto_region 4 with (go_at_call 44; with_reducible refine (HIN.out _).mono ?_; rintro e' w' ⟨rfl, rfl⟩)
    clear g0 g1 g2 g3 gf HIN hin
    refine gen_world (P := fun W' => Code.wp _ _ _ _ W') (Q := fun W' => KB (srcP 124 b A n c bs B) w [(b6, .cells #[.int .i64 y0, .int .i64 y1, .int .i64 y2, .int .i64 y3, .int .i64 y4, .int .i64 y5, .int .i64 y6, .int .i64 y7, .int .i64 y8] 34 (0, 0)), (b5, .cells #[.int .i64 pr, .int .i64 pc, .slice PA NP pcp] 32 (0, 0)), (w.heap.size + 1 + 1, .cells #[.int .i64 (0), .int .i64 (0), .int .i64 (0), .int .i64 (0)] 36 (0, 0)), (w.heap.size + 1, .cells #[.int .i64 (0), .int .i64 (0), .int .i64 (0), .int .i64 (0), .int .i64 (0), .int .i64 (0), .int .i64 (0), .int .i64 (0), .int .i64 (0)] 34 (0, 0)), (w.heap.size, .cells #[.int .i64 (0), .int .i64 (0), .slice none 0 0] 32 (0, 0))] W' ∧ Own W' (w.heap.size + 1 + 1 + 1) (.slice PA NP pcp) xs ∧ W'.heap[b7]? = some (.cells #[.int .i64 3, .int .i64 z1, .int .i64 z2, .int .i64 z3] 36 (0, 0))) ?_ ?_
    · refine ⟨(HKQ.out.sub (fun p hp => List.mem_cons_of_mem _ hp)).setO (by omega) (show b < b7 by omega) (fun p hp => ?_), Own.setNe HOQ.out (p := ⟨b7, 0, none⟩) (fun e => by have h : b7 < b5 := hrow b7 e; omega) _, blk4_0u (HKQ.out.get (g := b7) (o := .cells #[.int .i64 z0, .int .i64 z1, .int .i64 z2, .int .i64 z3] 36 (0, 0)) (by simp))⟩
      simp only [List.mem_cons, List.not_mem_nil, or_false] at hp
      rcases hp with rfl | rfl | rfl | rfl | rfl <;> simp <;> omega
    rintro wz ⟨hkz, hoz, kg⟩
    have HKZ := Lib.hid hkz
    have HOZ := Lib.hid hoz
    clear hkz hoz
    have kp := HKZ.out.get (g := b5) (o := .cells #[.int .i64 pr, .int .i64 pc, .slice PA NP pcp] 32 (0, 0)) (by simp)
    have km := HKZ.out.get (g := b6) (o := .cells #[.int .i64 y0, .int .i64 y1, .int .i64 y2, .int .i64 y3, .int .i64 y4, .int .i64 y5, .int .i64 y6, .int .i64 y7, .int .i64 y8] 34 (0, 0)) (by simp)
    have kR := HKZ.out.get (g := w.heap.size) (o := .cells #[.int .i64 (0), .int .i64 (0), .slice none 0 0] 32 (0, 0)) (by simp)
    have kM := HKZ.out.get (g := w.heap.size + 1) (o := .cells #[.int .i64 (0), .int .i64 (0), .int .i64 (0), .int .i64 (0), .int .i64 (0), .int .i64 (0), .int .i64 (0), .int .i64 (0), .int .i64 (0)] 34 (0, 0)) (by simp)
    have kS := HKZ.out.get (g := w.heap.size + 1 + 1) (o := .cells #[.int .i64 (0), .int .i64 (0), .int .i64 (0), .int .i64 (0)] 36 (0, 0)) (by simp)
    obtain ⟨p0, p1, p2, n0, n1, n2, n3, n4, n5, n6, n7, n8, g0, g1, g2, g3⟩ := tri16 kp km kg
    obtain ⟨a0, a1, a2, af⟩ := blk3 kR
    obtain ⟨c0, c1, c2, c3, c4, c5, c6, c7, c8, cf⟩ := blk9 kM
    obtain ⟨d0, d1, d2, d3, df⟩ := blk4q kS
    have npR : b5 ≠ w.heap.size := by omega
    have npM : b5 ≠ w.heap.size + 1 := by omega
    have npS : b5 ≠ w.heap.size + 1 + 1 := by omega
    have nmR : b6 ≠ w.heap.size := by omega
    have nmM : b6 ≠ w.heap.size + 1 := by omega
    have nmS : b6 ≠ w.heap.size + 1 + 1 := by omega
    have ngR : b7 ≠ w.heap.size := by omega
    have ngM : b7 ≠ w.heap.size + 1 := by omega
    have ngS : b7 ≠ w.heap.size + 1 + 1 := by omega
    go_wp2_with fail
    go_region_held3 (fun w' => w'.cell? ⟨b5, 0, none⟩ = some (.int .i64 pr) ∧ w'.cell? ⟨b5, 1, none⟩ = some (.int .i64 pc) ∧ w'.cell? ⟨b5, 2, none⟩ = some (.slice PA NP pcp) ∧ w'.cell? ⟨b6, 0, none⟩ = some (.int .i64 y0) ∧ w'.cell? ⟨b6, 1, none⟩ = some (.int .i64 y1) ∧ w'.cell? ⟨b6, 2, none⟩ = some (.int .i64 y2) ∧ w'.cell? ⟨b6, 3, none⟩ = some (.int .i64 y3) ∧ w'.cell? ⟨b6, 4, none⟩ = some (.int .i64 y4) ∧ w'.cell? ⟨b6, 5, none⟩ = some (.int .i64 y5) ∧ w'.cell? ⟨b6, 6, none⟩ = some (.int .i64 y6) ∧ w'.cell? ⟨b6, 7, none⟩ = some (.int .i64 y7) ∧ w'.cell? ⟨b6, 8, none⟩ = some (.int .i64 y8) ∧ w'.cell? ⟨b7, 0, none⟩ = some (.int .i64 3) ∧ w'.cell? ⟨b7, 1, none⟩ = some (.int .i64 z1) ∧ w'.cell? ⟨b7, 2, none⟩ = some (.int .i64 z2) ∧ w'.cell? ⟨b7, 3, none⟩ = some (.int .i64 z3))
      (first | with_reducible exact ⟨p0, p1, p2, n0, n1, n2, n3, n4, n5, n6, n7, n8, g0, g1, g2, g3⟩ | with_reducible exact tri16 (blk_other (blk_other (blk_other kp npR) npR) npR) (blk_other (blk_other (blk_other km nmR) nmR) nmR) (blk_other (blk_other (blk_other kg ngR) ngR) ngR) | with_reducible exact tri16 (blk_other (blk_other (blk_other (blk_other (blk_other (blk_other (blk_other (blk_other (blk_other (blk_other (blk_other (blk_other kp npR) npR) npR) npM) npM) npM) npM) npM) npM) npM) npM) npM) (blk_other (blk_other (blk_other (blk_other (blk_other (blk_other (blk_other (blk_other (blk_other (blk_other (blk_other (blk_other km nmR) nmR) nmR) nmM) nmM) nmM) nmM) nmM) nmM) nmM) nmM) nmM) (blk_other (blk_other (blk_other (blk_other (blk_other (blk_other (blk_other (blk_other (blk_other (blk_other (blk_other (blk_other kg ngR) ngR) ngR) ngM) ngM) ngM) ngM) ngM) ngM) ngM) ngM) ngM) | with_reducible exact tri16 (blk_other (blk_other (blk_other (blk_other (blk_other (blk_other (blk_other (blk_other (blk_other (blk_other (blk_other (blk_other (blk_other (blk_other (blk_other (blk_other kp npR) npR) npR) npM) npM) npM) npM) npM) npM) npM) npM) npM) npS) npS) npS) npS) (blk_other (blk_other (blk_other (blk_other (blk_other (blk_other (blk_other (blk_other (blk_other (blk_other (blk_other (blk_other (blk_other (blk_other (blk_other (blk_other km nmR) nmR) nmR) nmM) nmM) nmM) nmM) nmM) nmM) nmM) nmM) nmM) nmS) nmS) nmS) nmS) (blk_other (blk_other (blk_other (blk_other (blk_other (blk_other (blk_other (blk_other (blk_other (blk_other (blk_other (blk_other (blk_other (blk_other (blk_other (blk_other kg ngR) ngR) ngR) ngM) ngM) ngM) ngM) ngM) ngM) ngM) ngM) ngM) ngS) ngS) ngS) ngS) | with_reducible exact tri16d (blk_other (blk_other (blk_other kp npR) npR) npR) (blk_other (blk_other (blk_other km nmR) nmR) nmR) (blk_other (blk_other (blk_other kg ngR) ngR) ngR) | with_reducible exact tri16d (blk_other (blk_other (blk_other (blk_other (blk_other (blk_other (blk_other (blk_other (blk_other (blk_other (blk_other (blk_other kp npR) npR) npR) npM) npM) npM) npM) npM) npM) npM) npM) npM) (blk_other (blk_other (blk_other (blk_other (blk_other (blk_other (blk_other (blk_other (blk_other (blk_other (blk_other (blk_other km nmR) nmR) nmR) nmM) nmM) nmM) nmM) nmM) nmM) nmM) nmM) nmM) (blk_other (blk_other (blk_other (blk_other (blk_other (blk_other (blk_other (blk_other (blk_other (blk_other (blk_other (blk_other kg ngR) ngR) ngR) ngM) ngM) ngM) ngM) ngM) ngM) ngM) ngM) ngM) | with_reducible exact tri16d (blk_other (blk_other (blk_other (blk_other (blk_other (blk_other (blk_other (blk_other (blk_other (blk_other (blk_other (blk_other (blk_other (blk_other (blk_other (blk_other kp npR) npR) npR) npM) npM) npM) npM) npM) npM) npM) npM) npM) npS) npS) npS) npS) (blk_other (blk_other (blk_other (blk_other (blk_other (blk_other (blk_other (blk_other (blk_other (blk_other (blk_other (blk_other (blk_other (blk_other (blk_other (blk_other km nmR) nmR) nmR) nmM) nmM) nmM) nmM) nmM) nmM) nmM) nmM) nmM) nmS) nmS) nmS) nmS) (blk_other (blk_other (blk_other (blk_other (blk_other (blk_other (blk_other (blk_other (blk_other (blk_other (blk_other (blk_other (blk_other (blk_other (blk_other (blk_other kg ngR) ngR) ngR) ngM) ngM) ngM) ngM) ngM) ngM) ngM) ngM) ngM) ngS) ngS) ngS) ngS) | go_keep)
      (fail)
    have nRM : w.heap.size ≠ w.heap.size + 1 := by omega
    have nRS : w.heap.size ≠ w.heap.size + 1 + 1 := by omega
    have nMR : w.heap.size + 1 ≠ w.heap.size := by omega
    have nMS : w.heap.size + 1 ≠ w.heap.size + 1 + 1 := by omega
    have nSR : w.heap.size + 1 + 1 ≠ w.heap.size := by omega
    have nSM : w.heap.size + 1 + 1 ≠ w.heap.size + 1 := by omega
    have lR : w.heap.size < w.heap.size + 1 + 1 + 1 := by omega
    have lM : w.heap.size + 1 < w.heap.size + 1 + 1 + 1 := by omega
    have lS : w.heap.size + 1 + 1 < w.heap.size + 1 + 1 + 1 := by omega
    have hbM : b < w.heap.size + 1 := by omega
    have hbS : b < w.heap.size + 1 + 1 := by omega
    have gM : w.heap.size ≤ w.heap.size + 1 := by omega
    have gS : w.heap.size ≤ w.heap.size + 1 + 1 := by omega
    obtain ⟨s0, s1, s2, -⟩ := blk3 (blk_other (k := 3) (u := .int .i64 z3) (blk_other (k := 2) (u := .int .i64 z2) (blk_other (k := 1) (u := .int .i64 z1) (blk_other (k := 0) (u := .int .i64 3) (blk_other (k := 8) (u := .int .i64 y8) (blk_other (k := 7) (u := .int .i64 y7) (blk_other (k := 6) (u := .int .i64 y6) (blk_other (k := 5) (u := .int .i64 y5) (blk_other (k := 4) (u := .int .i64 y4) (blk_other (k := 3) (u := .int .i64 y3) (blk_other (k := 2) (u := .int .i64 y2) (blk_other (k := 1) (u := .int .i64 y1) (blk_other (k := 0) (u := .int .i64 y0) (blk3_2 (u := .slice PA NP pcp) (blk3_1 (u := .int .i64 pc) (blk3_0 (u := .int .i64 pr) kR))) nRM) nRM) nRM) nRM) nRM) nRM) nRM) nRM) nRM) nRS) nRS) nRS) nRS)
    obtain ⟨t0, t1, t2, t3, t4, t5, t6, t7, t8, -⟩ := blk9 (blk_other (k := 3) (u := .int .i64 z3) (blk_other (k := 2) (u := .int .i64 z2) (blk_other (k := 1) (u := .int .i64 z1) (blk_other (k := 0) (u := .int .i64 3) (res9 (blk_other (k := 2) (u := .slice PA NP pcp) (blk_other (k := 1) (u := .int .i64 pc) (blk_other (k := 0) (u := .int .i64 pr) kM nMR) nMR) nMR) (.int .i64 y0) (.int .i64 y1) (.int .i64 y2) (.int .i64 y3) (.int .i64 y4) (.int .i64 y5) (.int .i64 y6) (.int .i64 y7) (.int .i64 y8)) nMS) nMS) nMS) nMS)
    obtain ⟨q0, q1, q2, q3, -⟩ := blk4q (res4q (blk_other (k := 8) (u := .int .i64 y8) (blk_other (k := 7) (u := .int .i64 y7) (blk_other (k := 6) (u := .int .i64 y6) (blk_other (k := 5) (u := .int .i64 y5) (blk_other (k := 4) (u := .int .i64 y4) (blk_other (k := 3) (u := .int .i64 y3) (blk_other (k := 2) (u := .int .i64 y2) (blk_other (k := 1) (u := .int .i64 y1) (blk_other (k := 0) (u := .int .i64 y0) (blk_other (k := 2) (u := .slice PA NP pcp) (blk_other (k := 1) (u := .int .i64 pc) (blk_other (k := 0) (u := .int .i64 pr) kS nSR) nSR) nSR) nSM) nSM) nSM) nSM) nSM) nSM) nSM) nSM) nSM) (.int .i64 3) (.int .i64 z1) (.int .i64 z2) (.int .i64 z3))
    go_wp2_with fail
    (try simp only [Exit.inBlock, Exit.then]); refine bodyPost_ret (by simp [results, Try.results78, go_sem, s0, s1, s2, t0, t1, t2, t3, t4, t5, t6, t7, t8, q0, q1, q2, q3]; try rfl) rfl ?_
    first
      | (with_reducible exact ⟨_, rfl, ⟨_, _, _, xs, _, _, _, _, _, _, _, _, _, _, _, _, _, rfl, by rw [HL.out]; exact hle, Own.more (Own.setLt (Own.setLt (Own.setLt (Own.setLt (Own.setLt (Own.setLt (Own.setLt (Own.setLt (Own.setLt (Own.setLt (Own.setLt (Own.setLt (Own.setLt (Own.setLt (Own.setLt (Own.setLt HOZ.out (p := ⟨w.heap.size, 0, none⟩) lR (.int .i64 pr)) (p := ⟨w.heap.size, 1, none⟩) lR (.int .i64 pc)) (p := ⟨w.heap.size, 2, none⟩) lR (.slice PA NP pcp)) (p := ⟨w.heap.size + 1, 0, none⟩) lM (.int .i64 y0)) (p := ⟨w.heap.size + 1, 1, none⟩) lM (.int .i64 y1)) (p := ⟨w.heap.size + 1, 2, none⟩) lM (.int .i64 y2)) (p := ⟨w.heap.size + 1, 3, none⟩) lM (.int .i64 y3)) (p := ⟨w.heap.size + 1, 4, none⟩) lM (.int .i64 y4)) (p := ⟨w.heap.size + 1, 5, none⟩) lM (.int .i64 y5)) (p := ⟨w.heap.size + 1, 6, none⟩) lM (.int .i64 y6)) (p := ⟨w.heap.size + 1, 7, none⟩) lM (.int .i64 y7)) (p := ⟨w.heap.size + 1, 8, none⟩) lM (.int .i64 y8)) (p := ⟨w.heap.size + 1 + 1, 0, none⟩) lS (.int .i64 3)) (p := ⟨w.heap.size + 1 + 1, 1, none⟩) lS (.int .i64 z1)) (p := ⟨w.heap.size + 1 + 1, 2, none⟩) lS (.int .i64 z2)) (p := ⟨w.heap.size + 1 + 1, 3, none⟩) lS (.int .i64 z3)) (by omega)⟩, (bxset (k := 3) (u := .int .i64 z3) (bxset (k := 2) (u := .int .i64 z2) (bxset (k := 1) (u := .int .i64 z1) (bxset (k := 0) (u := .int .i64 3) (bxset (k := 8) (u := .int .i64 y8) (bxset (k := 7) (u := .int .i64 y7) (bxset (k := 6) (u := .int .i64 y6) (bxset (k := 5) (u := .int .i64 y5) (bxset (k := 4) (u := .int .i64 y4) (bxset (k := 3) (u := .int .i64 y3) (bxset (k := 2) (u := .int .i64 y2) (bxset (k := 1) (u := .int .i64 y1) (bxset (k := 0) (u := .int .i64 y0) (bxset (k := 2) (u := .slice PA NP pcp) (bxset (k := 1) (u := .int .i64 pc) (bxset (k := 0) (u := .int .i64 pr) HKZ.out.bx hbw (Nat.le_refl _)) hbw (Nat.le_refl _)) hbw (Nat.le_refl _)) hbM gM) hbM gM) hbM gM) hbM gM) hbM gM) hbM gM) hbM gM) hbM gM) hbM gM) hbS gS) hbS gS) hbS gS) hbS gS)⟩)
      | exact ⟨_, rfl, ⟨_, _, _, xs, _, _, _, _, _, _, _, _, _, _, _, _, _, rfl, by rw [HL.out]; exact hle, Own.more (Own.keep (Own.setLt (Own.setLt (Own.setLt (Own.setLt (Own.setLt (Own.setLt (Own.setLt (Own.setLt (Own.setLt (Own.setLt (Own.setLt (Own.setLt (Own.setLt (Own.setLt (Own.setLt (Own.setLt HOZ.out (p := ⟨w.heap.size, 0, none⟩) lR (.int .i64 pr)) (p := ⟨w.heap.size, 1, none⟩) lR (.int .i64 pc)) (p := ⟨w.heap.size, 2, none⟩) lR (.slice PA NP pcp)) (p := ⟨w.heap.size + 1, 0, none⟩) lM (.int .i64 y0)) (p := ⟨w.heap.size + 1, 1, none⟩) lM (.int .i64 y1)) (p := ⟨w.heap.size + 1, 2, none⟩) lM (.int .i64 y2)) (p := ⟨w.heap.size + 1, 3, none⟩) lM (.int .i64 y3)) (p := ⟨w.heap.size + 1, 4, none⟩) lM (.int .i64 y4)) (p := ⟨w.heap.size + 1, 5, none⟩) lM (.int .i64 y5)) (p := ⟨w.heap.size + 1, 6, none⟩) lM (.int .i64 y6)) (p := ⟨w.heap.size + 1, 7, none⟩) lM (.int .i64 y7)) (p := ⟨w.heap.size + 1, 8, none⟩) lM (.int .i64 y8)) (p := ⟨w.heap.size + 1 + 1, 0, none⟩) lS (.int .i64 3)) (p := ⟨w.heap.size + 1 + 1, 1, none⟩) lS (.int .i64 z1)) (p := ⟨w.heap.size + 1 + 1, 2, none⟩) lS (.int .i64 z2)) (p := ⟨w.heap.size + 1 + 1, 3, none⟩) lS (.int .i64 z3)) (Below.refl _ _).drew) (by omega)⟩, (BX.drew (bxset (k := 3) (u := .int .i64 z3) (bxset (k := 2) (u := .int .i64 z2) (bxset (k := 1) (u := .int .i64 z1) (bxset (k := 0) (u := .int .i64 3) (bxset (k := 8) (u := .int .i64 y8) (bxset (k := 7) (u := .int .i64 y7) (bxset (k := 6) (u := .int .i64 y6) (bxset (k := 5) (u := .int .i64 y5) (bxset (k := 4) (u := .int .i64 y4) (bxset (k := 3) (u := .int .i64 y3) (bxset (k := 2) (u := .int .i64 y2) (bxset (k := 1) (u := .int .i64 y1) (bxset (k := 0) (u := .int .i64 y0) (bxset (k := 2) (u := .slice PA NP pcp) (bxset (k := 1) (u := .int .i64 pc) (bxset (k := 0) (u := .int .i64 pr) HKZ.out.bx hbw (Nat.le_refl _)) hbw (Nat.le_refl _)) hbw (Nat.le_refl _)) hbM gM) hbM gM) hbM gM) hbM gM) hbM gM) hbM gM) hbM gM) hbM gM) hbM gM) hbS gS) hbS gS) hbS gS) hbS gS))⟩

end Go.Proofs.Ytflpllmbpfdnjaa
namespace Go.Proofs.Ytflpllmbpfdnjaa
set_option linter.unusedSimpArgs false
open Go.RowKit
set_option maxRecDepth 20000 in
set_option maxHeartbeats 8000000 in
theorem DrawSampleMap_any (A : Option Addr) (n c : Nat) (bs : List Int) (B : Nat) (w0 : World) (hb : RB w0 B A n bs) (hB0 : B ≤ w0.heap.size) (hn : n ≤ 4096) :
    Calls Try.prog 35 #[.slice A n c] w0 fun e w' => ∃ u, e = .returned u ∧ (∃ (pr pc : Int) (v : Value) (xs : List Int) (y0 y1 y2 y3 y4 y5 y6 y7 y8 z0 z1 z2 z3 : Int), u = .tuple #[.agg #[.int .i64 pr, .int .i64 pc, v], .agg #[.int .i64 y0, .int .i64 y1, .int .i64 y2, .int .i64 y3, .int .i64 y4, .int .i64 y5, .int .i64 y6, .int .i64 y7, .int .i64 y8], .agg #[.int .i64 z0, .int .i64 z1, .int .i64 z2, .int .i64 z3]] ∧ xs.length ≤ 40000 ∧ Own w' w0.heap.size v xs) ∧ Below w0.heap.size w0 w' := by
  have HRB := Lib.hid hb
  clear hb
  go_enter Try.func35, Try.ntmps35
  go_wp2_with fail
  (go_at_call 60; go_call (l01From_any A n c bs _ B (HRB.out.below ((((Below.refl B w0).alloc hB0 _).alloc (by first | (simp; done) | (simp; omega)) _).alloc (by first | (simp; done) | (simp; omega)) _)) (by first | (simp; done) | (simp; omega)) hn) as e w ⟨rfl, hs, hb0⟩)
  have hI : (srcP 124 (w0.heap.size + 1 + 1 + 1) A n c bs B).I w := ⟨by simpa using hs, (HRB.out.below ((((Below.refl B w0).alloc hB0 _).alloc (by first | (simp; done) | (simp; omega)) _).alloc (by first | (simp; done) | (simp; omega)) _)).below (hb0.mono (by first | (simp; done) | (simp; omega))), by omega, hn⟩
  have hB0w : Below w0.heap.size w0 w := ((((Below.refl _ _).alloc (Nat.le_refl _) _).alloc (by simp) _).alloc (by first | (simp; done) | (simp; omega)) _).trans (hb0.mono (by first | (simp; done) | (simp; omega)))
  have k1 := blk_below (blk_alloc (u := .cells #[.int .i64 (0), .int .i64 (0), .int .i64 (0), .int .i64 (0)] 36) (blk_alloc (u := .cells #[.int .i64 (0), .int .i64 (0), .int .i64 (0), .int .i64 (0), .int .i64 (0), .int .i64 (0), .int .i64 (0), .int .i64 (0), .int .i64 (0)] 34) (heap_alloc_new w0 (.cells #[.int .i64 (0), .int .i64 (0), .slice none 0 0] 32)) (by simp)) (by first | (simp; done) | (simp; omega))) hb0 (by first | (simp; done) | (simp; omega))
  have k2 := blk_below (blk_alloc (u := .cells #[.int .i64 (0), .int .i64 (0), .int .i64 (0), .int .i64 (0)] 36) (heap_alloc_at (w := w0.alloc (.cells #[.int .i64 (0), .int .i64 (0), .slice none 0 0] 32)) (b := w0.heap.size + 1) (o := .cells #[.int .i64 (0), .int .i64 (0), .int .i64 (0), .int .i64 (0), .int .i64 (0), .int .i64 (0), .int .i64 (0), .int .i64 (0), .int .i64 (0)] 34) (by simp)) (by simp)) hb0 (by first | (simp; done) | (simp; omega))
  have k3 := blk_below (heap_alloc_at (w := (w0.alloc (.cells #[.int .i64 (0), .int .i64 (0), .slice none 0 0] 32)).alloc (.cells #[.int .i64 (0), .int .i64 (0), .int .i64 (0), .int .i64 (0), .int .i64 (0), .int .i64 (0), .int .i64 (0), .int .i64 (0), .int .i64 (0)] 34)) (b := w0.heap.size + 1 + 1) (o := .cells #[.int .i64 (0), .int .i64 (0), .int .i64 (0), .int .i64 (0)] 36) (by simp)) hb0 (by simp)
  simp only [World.size_alloc]
  obtain ⟨b, hbd⟩ : ∃ b, w0.heap.size + 1 + 1 + 1 = b := ⟨_, rfl⟩
  rw [hbd] at hI ⊢
  have hbw := srcP_lt hI
  have hlt3 : w0.heap.size + 1 + 1 < b := by omega
  have HKI : Hid (KB (srcP 124 b A n c bs B) w [(w0.heap.size + 1 + 1, .cells #[.int .i64 (0), .int .i64 (0), .int .i64 (0), .int .i64 (0)] 36 (0, 0)), (w0.heap.size + 1, .cells #[.int .i64 (0), .int .i64 (0), .int .i64 (0), .int .i64 (0), .int .i64 (0), .int .i64 (0), .int .i64 (0), .int .i64 (0), .int .i64 (0)] 34 (0, 0)), (w0.heap.size, .cells #[.int .i64 (0), .int .i64 (0), .slice none 0 0] 32 (0, 0))] w) := Lib.hid ⟨BX.refl _ _ _, hI, fun p hp => by
    simp only [List.mem_cons, List.not_mem_nil, or_false] at hp
    rcases hp with rfl | rfl | rfl
    · exact ⟨k3, by first | (simp; done) | (simp; omega)⟩
    · exact ⟨k2, by first | (simp; done) | (simp; omega)⟩
    · exact ⟨k1, by first | (simp; done) | (simp; omega)⟩⟩
  have H0 := Lib.hid hB0w
  clear hI k1 k2 k3 hs hb0 hB0w hbd
  go_wp2_with fail
  go_at_call 78
  with_reducible refine (l26DrawSmall_any b A n c bs B _ HKI.out.inv).mono ?_
  rintro e1 w1 ⟨u1, rfl, hdr, hb1⟩
  have HK1 := Lib.hid (HKI.out.step hb1)
  obtain ⟨pr, pc, pv, xs, y0, y1, y2, y3, y4, y5, y6, y7, y8, z0, z1, z2, z3, rfl, hle, ho1⟩ := hdr
  obtain ⟨PA, pcp, rfl, -⟩ := ho1.shape
  obtain ⟨NP, hNP⟩ : ∃ L, xs.length = L := ⟨_, rfl⟩
  rw [hNP] at ho1 hle ⊢
  have HL := Lib.hid hNP
  have HO1 := Lib.hid (ho1.more (show w0.heap.size + 1 + 1 + 1 ≤ w.heap.size by omega))
  have HBF := Lib.hid (H0.out.trans ((HK1.out.bx.mono (show w0.heap.size ≤ w.heap.size by omega)).below (show w0.heap.size ≤ b by omega)))
  have kR := HK1.out.get (g := w0.heap.size) (o := .cells #[.int .i64 (0), .int .i64 (0), .slice none 0 0] 32 (0, 0)) (by simp)
  have kM := HK1.out.get (g := w0.heap.size + 1) (o := .cells #[.int .i64 (0), .int .i64 (0), .int .i64 (0), .int .i64 (0), .int .i64 (0), .int .i64 (0), .int .i64 (0), .int .i64 (0), .int .i64 (0)] 34 (0, 0)) (by simp)
  have kS := HK1.out.get (g := w0.heap.size + 1 + 1) (o := .cells #[.int .i64 (0), .int .i64 (0), .int .i64 (0), .int .i64 (0)] 36 (0, 0)) (by simp)
  clear hb1 ho1 hNP HKI
  obtain ⟨a0, a1, a2, af⟩ := blk3 kR
  obtain ⟨c0, c1, c2, c3, c4, c5, c6, c7, c8, cf⟩ := blk9 kM
  obtain ⟨d0, d1, d2, d3, df⟩ := blk4q kS
  have nRM : w0.heap.size ≠ w0.heap.size + 1 := by omega
  have nRS : w0.heap.size ≠ w0.heap.size + 1 + 1 := by omega
  have nMR : w0.heap.size + 1 ≠ w0.heap.size := by omega
  have nMS : w0.heap.size + 1 ≠ w0.heap.size + 1 + 1 := by omega
  have nSR : w0.heap.size + 1 + 1 ≠ w0.heap.size := by omega
  have nSM : w0.heap.size + 1 + 1 ≠ w0.heap.size + 1 := by omega
  have lR : w0.heap.size < w0.heap.size + 1 + 1 + 1 := by omega
  have lM : w0.heap.size + 1 < w0.heap.size + 1 + 1 + 1 := by omega
  have lS : w0.heap.size + 1 + 1 < w0.heap.size + 1 + 1 + 1 := by omega
  have gM : w0.heap.size ≤ w0.heap.size + 1 := by omega
  have gS : w0.heap.size ≤ w0.heap.size + 1 + 1 := by omega
  obtain ⟨s0, s1, s2, -⟩ := blk3 (blk_other (k := 3) (u := .int .i64 z3) (blk_other (k := 2) (u := .int .i64 z2) (blk_other (k := 1) (u := .int .i64 z1) (blk_other (k := 0) (u := .int .i64 z0) (blk_other (k := 8) (u := .int .i64 y8) (blk_other (k := 7) (u := .int .i64 y7) (blk_other (k := 6) (u := .int .i64 y6) (blk_other (k := 5) (u := .int .i64 y5) (blk_other (k := 4) (u := .int .i64 y4) (blk_other (k := 3) (u := .int .i64 y3) (blk_other (k := 2) (u := .int .i64 y2) (blk_other (k := 1) (u := .int .i64 y1) (blk_other (k := 0) (u := .int .i64 y0) (blk3_2 (u := .slice PA NP pcp) (blk3_1 (u := .int .i64 pc) (blk3_0 (u := .int .i64 pr) kR))) nRM) nRM) nRM) nRM) nRM) nRM) nRM) nRM) nRM) nRS) nRS) nRS) nRS)
  obtain ⟨t0, t1, t2, t3, t4, t5, t6, t7, t8, -⟩ := blk9 (blk_other (k := 3) (u := .int .i64 z3) (blk_other (k := 2) (u := .int .i64 z2) (blk_other (k := 1) (u := .int .i64 z1) (blk_other (k := 0) (u := .int .i64 z0) (res9 (blk_other (k := 2) (u := .slice PA NP pcp) (blk_other (k := 1) (u := .int .i64 pc) (blk_other (k := 0) (u := .int .i64 pr) kM nMR) nMR) nMR) (.int .i64 y0) (.int .i64 y1) (.int .i64 y2) (.int .i64 y3) (.int .i64 y4) (.int .i64 y5) (.int .i64 y6) (.int .i64 y7) (.int .i64 y8)) nMS) nMS) nMS) nMS)
  obtain ⟨q0, q1, q2, q3, -⟩ := blk4q (res4q (blk_other (k := 8) (u := .int .i64 y8) (blk_other (k := 7) (u := .int .i64 y7) (blk_other (k := 6) (u := .int .i64 y6) (blk_other (k := 5) (u := .int .i64 y5) (blk_other (k := 4) (u := .int .i64 y4) (blk_other (k := 3) (u := .int .i64 y3) (blk_other (k := 2) (u := .int .i64 y2) (blk_other (k := 1) (u := .int .i64 y1) (blk_other (k := 0) (u := .int .i64 y0) (blk_other (k := 2) (u := .slice PA NP pcp) (blk_other (k := 1) (u := .int .i64 pc) (blk_other (k := 0) (u := .int .i64 pr) kS nSR) nSR) nSR) nSM) nSM) nSM) nSM) nSM) nSM) nSM) nSM) nSM) (.int .i64 z0) (.int .i64 z1) (.int .i64 z2) (.int .i64 z3))
  go_wp2_with fail
  (try simp only [Exit.inBlock, Exit.then]); refine bodyPost_ret (by simp [results, Try.results35, go_sem, s0, s1, s2, t0, t1, t2, t3, t4, t5, t6, t7, t8, q0, q1, q2, q3]; try rfl) rfl ?_
  exact ⟨_, rfl, ⟨_, _, _, xs, _, _, _, _, _, _, _, _, _, _, _, _, _, rfl, by rw [HL.out]; exact hle, Own.more (Own.setLt (Own.setLt (Own.setLt (Own.setLt (Own.setLt (Own.setLt (Own.setLt (Own.setLt (Own.setLt (Own.setLt (Own.setLt (Own.setLt (Own.setLt (Own.setLt (Own.setLt (Own.setLt HO1.out (p := ⟨w0.heap.size, 0, none⟩) lR (.int .i64 pr)) (p := ⟨w0.heap.size, 1, none⟩) lR (.int .i64 pc)) (p := ⟨w0.heap.size, 2, none⟩) lR (.slice PA NP pcp)) (p := ⟨w0.heap.size + 1, 0, none⟩) lM (.int .i64 y0)) (p := ⟨w0.heap.size + 1, 1, none⟩) lM (.int .i64 y1)) (p := ⟨w0.heap.size + 1, 2, none⟩) lM (.int .i64 y2)) (p := ⟨w0.heap.size + 1, 3, none⟩) lM (.int .i64 y3)) (p := ⟨w0.heap.size + 1, 4, none⟩) lM (.int .i64 y4)) (p := ⟨w0.heap.size + 1, 5, none⟩) lM (.int .i64 y5)) (p := ⟨w0.heap.size + 1, 6, none⟩) lM (.int .i64 y6)) (p := ⟨w0.heap.size + 1, 7, none⟩) lM (.int .i64 y7)) (p := ⟨w0.heap.size + 1, 8, none⟩) lM (.int .i64 y8)) (p := ⟨w0.heap.size + 1 + 1, 0, none⟩) lS (.int .i64 z0)) (p := ⟨w0.heap.size + 1 + 1, 1, none⟩) lS (.int .i64 z1)) (p := ⟨w0.heap.size + 1 + 1, 2, none⟩) lS (.int .i64 z2)) (p := ⟨w0.heap.size + 1 + 1, 3, none⟩) lS (.int .i64 z3)) (by omega)⟩, (Below.setCell (p := ⟨w0.heap.size + 1 + 1, 3, none⟩) (Below.setCell (p := ⟨w0.heap.size + 1 + 1, 2, none⟩) (Below.setCell (p := ⟨w0.heap.size + 1 + 1, 1, none⟩) (Below.setCell (p := ⟨w0.heap.size + 1 + 1, 0, none⟩) (Below.setCell (p := ⟨w0.heap.size + 1, 8, none⟩) (Below.setCell (p := ⟨w0.heap.size + 1, 7, none⟩) (Below.setCell (p := ⟨w0.heap.size + 1, 6, none⟩) (Below.setCell (p := ⟨w0.heap.size + 1, 5, none⟩) (Below.setCell (p := ⟨w0.heap.size + 1, 4, none⟩) (Below.setCell (p := ⟨w0.heap.size + 1, 3, none⟩) (Below.setCell (p := ⟨w0.heap.size + 1, 2, none⟩) (Below.setCell (p := ⟨w0.heap.size + 1, 1, none⟩) (Below.setCell (p := ⟨w0.heap.size + 1, 0, none⟩) (Below.setCell (p := ⟨w0.heap.size, 2, none⟩) (Below.setCell (p := ⟨w0.heap.size, 1, none⟩) (Below.setCell (p := ⟨w0.heap.size, 0, none⟩) HBF.out (Nat.le_refl _) (.int .i64 pr)) (Nat.le_refl _) (.int .i64 pc)) (Nat.le_refl _) (.slice PA NP pcp)) gM (.int .i64 y0)) gM (.int .i64 y1)) gM (.int .i64 y2)) gM (.int .i64 y3)) gM (.int .i64 y4)) gM (.int .i64 y5)) gM (.int .i64 y6)) gM (.int .i64 y7)) gM (.int .i64 y8)) gS (.int .i64 z0)) gS (.int .i64 z1)) gS (.int .i64 z2)) gS (.int .i64 z3))⟩

set_option maxRecDepth 20000 in
set_option maxHeartbeats 8000000 in
theorem DrawSampleFive_any (A : Option Addr) (n c : Nat) (bs : List Int) (B : Nat) (w0 : World) (hb : RB w0 B A n bs) (hB0 : B ≤ w0.heap.size) (hn : n ≤ 4096) :
    Calls Try.prog 40 #[.slice A n c] w0 fun e w' => ∃ u, e = .returned u ∧ (∃ (pr pc : Int) (v : Value) (xs : List Int) (y0 y1 y2 y3 y4 y5 y6 y7 y8 z0 z1 z2 z3 : Int), u = .tuple #[.agg #[.int .i64 pr, .int .i64 pc, v], .agg #[.int .i64 y0, .int .i64 y1, .int .i64 y2, .int .i64 y3, .int .i64 y4, .int .i64 y5, .int .i64 y6, .int .i64 y7, .int .i64 y8], .agg #[.int .i64 z0, .int .i64 z1, .int .i64 z2, .int .i64 z3]] ∧ xs.length ≤ 40000 ∧ Own w' w0.heap.size v xs) ∧ Below w0.heap.size w0 w' := by
  have HRB := Lib.hid hb
  clear hb
  go_enter Try.func40, Try.ntmps40
  go_wp2_with fail
  (go_at_call 60; go_call (l01From_any A n c bs _ B (HRB.out.below ((((Below.refl B w0).alloc hB0 _).alloc (by first | (simp; done) | (simp; omega)) _).alloc (by first | (simp; done) | (simp; omega)) _)) (by first | (simp; done) | (simp; omega)) hn) as e w ⟨rfl, hs, hb0⟩)
  have hI : (srcP 124 (w0.heap.size + 1 + 1 + 1) A n c bs B).I w := ⟨by simpa using hs, (HRB.out.below ((((Below.refl B w0).alloc hB0 _).alloc (by first | (simp; done) | (simp; omega)) _).alloc (by first | (simp; done) | (simp; omega)) _)).below (hb0.mono (by first | (simp; done) | (simp; omega))), by omega, hn⟩
  have hB0w : Below w0.heap.size w0 w := ((((Below.refl _ _).alloc (Nat.le_refl _) _).alloc (by simp) _).alloc (by first | (simp; done) | (simp; omega)) _).trans (hb0.mono (by first | (simp; done) | (simp; omega)))
  have k1 := blk_below (blk_alloc (u := .cells #[.int .i64 (0), .int .i64 (0), .int .i64 (0), .int .i64 (0)] 36) (blk_alloc (u := .cells #[.int .i64 (0), .int .i64 (0), .int .i64 (0), .int .i64 (0), .int .i64 (0), .int .i64 (0), .int .i64 (0), .int .i64 (0), .int .i64 (0)] 34) (heap_alloc_new w0 (.cells #[.int .i64 (0), .int .i64 (0), .slice none 0 0] 32)) (by simp)) (by first | (simp; done) | (simp; omega))) hb0 (by first | (simp; done) | (simp; omega))
  have k2 := blk_below (blk_alloc (u := .cells #[.int .i64 (0), .int .i64 (0), .int .i64 (0), .int .i64 (0)] 36) (heap_alloc_at (w := w0.alloc (.cells #[.int .i64 (0), .int .i64 (0), .slice none 0 0] 32)) (b := w0.heap.size + 1) (o := .cells #[.int .i64 (0), .int .i64 (0), .int .i64 (0), .int .i64 (0), .int .i64 (0), .int .i64 (0), .int .i64 (0), .int .i64 (0), .int .i64 (0)] 34) (by simp)) (by simp)) hb0 (by first | (simp; done) | (simp; omega))
  have k3 := blk_below (heap_alloc_at (w := (w0.alloc (.cells #[.int .i64 (0), .int .i64 (0), .slice none 0 0] 32)).alloc (.cells #[.int .i64 (0), .int .i64 (0), .int .i64 (0), .int .i64 (0), .int .i64 (0), .int .i64 (0), .int .i64 (0), .int .i64 (0), .int .i64 (0)] 34)) (b := w0.heap.size + 1 + 1) (o := .cells #[.int .i64 (0), .int .i64 (0), .int .i64 (0), .int .i64 (0)] 36) (by simp)) hb0 (by simp)
  simp only [World.size_alloc]
  obtain ⟨b, hbd⟩ : ∃ b, w0.heap.size + 1 + 1 + 1 = b := ⟨_, rfl⟩
  rw [hbd] at hI ⊢
  have hbw := srcP_lt hI
  have hlt3 : w0.heap.size + 1 + 1 < b := by omega
  have HKI : Hid (KB (srcP 124 b A n c bs B) w [(w0.heap.size + 1 + 1, .cells #[.int .i64 (0), .int .i64 (0), .int .i64 (0), .int .i64 (0)] 36 (0, 0)), (w0.heap.size + 1, .cells #[.int .i64 (0), .int .i64 (0), .int .i64 (0), .int .i64 (0), .int .i64 (0), .int .i64 (0), .int .i64 (0), .int .i64 (0), .int .i64 (0)] 34 (0, 0)), (w0.heap.size, .cells #[.int .i64 (0), .int .i64 (0), .slice none 0 0] 32 (0, 0))] w) := Lib.hid ⟨BX.refl _ _ _, hI, fun p hp => by
    simp only [List.mem_cons, List.not_mem_nil, or_false] at hp
    rcases hp with rfl | rfl | rfl
    · exact ⟨k3, by first | (simp; done) | (simp; omega)⟩
    · exact ⟨k2, by first | (simp; done) | (simp; omega)⟩
    · exact ⟨k1, by first | (simp; done) | (simp; omega)⟩⟩
  have H0 := Lib.hid hB0w
  clear hI k1 k2 k3 hs hb0 hB0w hbd
  go_wp2_with fail
  go_at_call 78
  with_reducible refine (l26DrawSmall_any b A n c bs B _ HKI.out.inv).mono ?_
  rintro e1 w1 ⟨u1, rfl, hdr, hb1⟩
  have HK1 := Lib.hid (HKI.out.step hb1)
  obtain ⟨pr, pc, pv, xs, y0, y1, y2, y3, y4, y5, y6, y7, y8, z0, z1, z2, z3, rfl, hle, ho1⟩ := hdr
  obtain ⟨PA, pcp, rfl, -⟩ := ho1.shape
  obtain ⟨NP, hNP⟩ : ∃ L, xs.length = L := ⟨_, rfl⟩
  rw [hNP] at ho1 hle ⊢
  have HL := Lib.hid hNP
  have HO1 := Lib.hid (ho1.more (show w0.heap.size + 1 + 1 + 1 ≤ w.heap.size by omega))
  have HBF := Lib.hid (H0.out.trans ((HK1.out.bx.mono (show w0.heap.size ≤ w.heap.size by omega)).below (show w0.heap.size ≤ b by omega)))
  have kR := HK1.out.get (g := w0.heap.size) (o := .cells #[.int .i64 (0), .int .i64 (0), .slice none 0 0] 32 (0, 0)) (by simp)
  have kM := HK1.out.get (g := w0.heap.size + 1) (o := .cells #[.int .i64 (0), .int .i64 (0), .int .i64 (0), .int .i64 (0), .int .i64 (0), .int .i64 (0), .int .i64 (0), .int .i64 (0), .int .i64 (0)] 34 (0, 0)) (by simp)
  have kS := HK1.out.get (g := w0.heap.size + 1 + 1) (o := .cells #[.int .i64 (0), .int .i64 (0), .int .i64 (0), .int .i64 (0)] 36 (0, 0)) (by simp)
  clear hb1 ho1 hNP HKI
  obtain ⟨a0, a1, a2, af⟩ := blk3 kR
  obtain ⟨c0, c1, c2, c3, c4, c5, c6, c7, c8, cf⟩ := blk9 kM
  obtain ⟨d0, d1, d2, d3, df⟩ := blk4q kS
  have nRM : w0.heap.size ≠ w0.heap.size + 1 := by omega
  have nRS : w0.heap.size ≠ w0.heap.size + 1 + 1 := by omega
  have nMR : w0.heap.size + 1 ≠ w0.heap.size := by omega
  have nMS : w0.heap.size + 1 ≠ w0.heap.size + 1 + 1 := by omega
  have nSR : w0.heap.size + 1 + 1 ≠ w0.heap.size := by omega
  have nSM : w0.heap.size + 1 + 1 ≠ w0.heap.size + 1 := by omega
  have lR : w0.heap.size < w0.heap.size + 1 + 1 + 1 := by omega
  have lM : w0.heap.size + 1 < w0.heap.size + 1 + 1 + 1 := by omega
  have lS : w0.heap.size + 1 + 1 < w0.heap.size + 1 + 1 + 1 := by omega
  have gM : w0.heap.size ≤ w0.heap.size + 1 := by omega
  have gS : w0.heap.size ≤ w0.heap.size + 1 + 1 := by omega
  obtain ⟨s0, s1, s2, -⟩ := blk3 (blk_other (k := 3) (u := .int .i64 z3) (blk_other (k := 2) (u := .int .i64 z2) (blk_other (k := 1) (u := .int .i64 z1) (blk_other (k := 0) (u := .int .i64 z0) (blk_other (k := 8) (u := .int .i64 y8) (blk_other (k := 7) (u := .int .i64 y7) (blk_other (k := 6) (u := .int .i64 y6) (blk_other (k := 5) (u := .int .i64 y5) (blk_other (k := 4) (u := .int .i64 y4) (blk_other (k := 3) (u := .int .i64 y3) (blk_other (k := 2) (u := .int .i64 y2) (blk_other (k := 1) (u := .int .i64 y1) (blk_other (k := 0) (u := .int .i64 y0) (blk3_2 (u := .slice PA NP pcp) (blk3_1 (u := .int .i64 pc) (blk3_0 (u := .int .i64 pr) kR))) nRM) nRM) nRM) nRM) nRM) nRM) nRM) nRM) nRM) nRS) nRS) nRS) nRS)
  obtain ⟨t0, t1, t2, t3, t4, t5, t6, t7, t8, -⟩ := blk9 (blk_other (k := 3) (u := .int .i64 z3) (blk_other (k := 2) (u := .int .i64 z2) (blk_other (k := 1) (u := .int .i64 z1) (blk_other (k := 0) (u := .int .i64 z0) (res9 (blk_other (k := 2) (u := .slice PA NP pcp) (blk_other (k := 1) (u := .int .i64 pc) (blk_other (k := 0) (u := .int .i64 pr) kM nMR) nMR) nMR) (.int .i64 y0) (.int .i64 y1) (.int .i64 y2) (.int .i64 y3) (.int .i64 y4) (.int .i64 y5) (.int .i64 y6) (.int .i64 y7) (.int .i64 y8)) nMS) nMS) nMS) nMS)
  obtain ⟨q0, q1, q2, q3, -⟩ := blk4q (res4q (blk_other (k := 8) (u := .int .i64 y8) (blk_other (k := 7) (u := .int .i64 y7) (blk_other (k := 6) (u := .int .i64 y6) (blk_other (k := 5) (u := .int .i64 y5) (blk_other (k := 4) (u := .int .i64 y4) (blk_other (k := 3) (u := .int .i64 y3) (blk_other (k := 2) (u := .int .i64 y2) (blk_other (k := 1) (u := .int .i64 y1) (blk_other (k := 0) (u := .int .i64 y0) (blk_other (k := 2) (u := .slice PA NP pcp) (blk_other (k := 1) (u := .int .i64 pc) (blk_other (k := 0) (u := .int .i64 pr) kS nSR) nSR) nSR) nSM) nSM) nSM) nSM) nSM) nSM) nSM) nSM) nSM) (.int .i64 z0) (.int .i64 z1) (.int .i64 z2) (.int .i64 z3))
  go_wp2_with fail
  (try simp only [Exit.inBlock, Exit.then]); refine bodyPost_ret (by simp [results, Try.results40, go_sem, s0, s1, s2, t0, t1, t2, t3, t4, t5, t6, t7, t8, q0, q1, q2, q3]; try rfl) rfl ?_
  exact ⟨_, rfl, ⟨_, _, _, xs, _, _, _, _, _, _, _, _, _, _, _, _, _, rfl, by rw [HL.out]; exact hle, Own.more (Own.setLt (Own.setLt (Own.setLt (Own.setLt (Own.setLt (Own.setLt (Own.setLt (Own.setLt (Own.setLt (Own.setLt (Own.setLt (Own.setLt (Own.setLt (Own.setLt (Own.setLt (Own.setLt HO1.out (p := ⟨w0.heap.size, 0, none⟩) lR (.int .i64 pr)) (p := ⟨w0.heap.size, 1, none⟩) lR (.int .i64 pc)) (p := ⟨w0.heap.size, 2, none⟩) lR (.slice PA NP pcp)) (p := ⟨w0.heap.size + 1, 0, none⟩) lM (.int .i64 y0)) (p := ⟨w0.heap.size + 1, 1, none⟩) lM (.int .i64 y1)) (p := ⟨w0.heap.size + 1, 2, none⟩) lM (.int .i64 y2)) (p := ⟨w0.heap.size + 1, 3, none⟩) lM (.int .i64 y3)) (p := ⟨w0.heap.size + 1, 4, none⟩) lM (.int .i64 y4)) (p := ⟨w0.heap.size + 1, 5, none⟩) lM (.int .i64 y5)) (p := ⟨w0.heap.size + 1, 6, none⟩) lM (.int .i64 y6)) (p := ⟨w0.heap.size + 1, 7, none⟩) lM (.int .i64 y7)) (p := ⟨w0.heap.size + 1, 8, none⟩) lM (.int .i64 y8)) (p := ⟨w0.heap.size + 1 + 1, 0, none⟩) lS (.int .i64 z0)) (p := ⟨w0.heap.size + 1 + 1, 1, none⟩) lS (.int .i64 z1)) (p := ⟨w0.heap.size + 1 + 1, 2, none⟩) lS (.int .i64 z2)) (p := ⟨w0.heap.size + 1 + 1, 3, none⟩) lS (.int .i64 z3)) (by omega)⟩, (Below.setCell (p := ⟨w0.heap.size + 1 + 1, 3, none⟩) (Below.setCell (p := ⟨w0.heap.size + 1 + 1, 2, none⟩) (Below.setCell (p := ⟨w0.heap.size + 1 + 1, 1, none⟩) (Below.setCell (p := ⟨w0.heap.size + 1 + 1, 0, none⟩) (Below.setCell (p := ⟨w0.heap.size + 1, 8, none⟩) (Below.setCell (p := ⟨w0.heap.size + 1, 7, none⟩) (Below.setCell (p := ⟨w0.heap.size + 1, 6, none⟩) (Below.setCell (p := ⟨w0.heap.size + 1, 5, none⟩) (Below.setCell (p := ⟨w0.heap.size + 1, 4, none⟩) (Below.setCell (p := ⟨w0.heap.size + 1, 3, none⟩) (Below.setCell (p := ⟨w0.heap.size + 1, 2, none⟩) (Below.setCell (p := ⟨w0.heap.size + 1, 1, none⟩) (Below.setCell (p := ⟨w0.heap.size + 1, 0, none⟩) (Below.setCell (p := ⟨w0.heap.size, 2, none⟩) (Below.setCell (p := ⟨w0.heap.size, 1, none⟩) (Below.setCell (p := ⟨w0.heap.size, 0, none⟩) HBF.out (Nat.le_refl _) (.int .i64 pr)) (Nat.le_refl _) (.int .i64 pc)) (Nat.le_refl _) (.slice PA NP pcp)) gM (.int .i64 y0)) gM (.int .i64 y1)) gM (.int .i64 y2)) gM (.int .i64 y3)) gM (.int .i64 y4)) gM (.int .i64 y5)) gM (.int .i64 y6)) gM (.int .i64 y7)) gM (.int .i64 y8)) gS (.int .i64 z0)) gS (.int .i64 z1)) gS (.int .i64 z2)) gS (.int .i64 z3))⟩

end Go.Proofs.Ytflpllmbpfdnjaa
namespace Go.Proofs.Ytflpllmbpfdnjaa
set_option linter.unusedSimpArgs false
open Go.RowKit

set_option maxRecDepth 20000 in
set_option maxHeartbeats 20000000 in
theorem DrawSampleStack_any (A : Option Addr) (n c : Nat) (bs : List Int) (B : Nat) (w0 : World) (hb : RB w0 B A n bs) (hB0 : B ≤ w0.heap.size) (hn : n ≤ 4096) :
    Calls Try.prog 41 #[.slice A n c] w0 fun e w' => ∃ u, e = .returned u ∧ (∃ (pr pc : Int) (v : Value) (xs : List Int) (y0 y1 y2 y3 y4 y5 y6 y7 y8 z0 z1 z2 z3 ln : Int), u = .tuple #[.agg #[.int .i64 pr, .int .i64 pc, v], .agg #[.int .i64 y0, .int .i64 y1, .int .i64 y2, .int .i64 y3, .int .i64 y4, .int .i64 y5, .int .i64 y6, .int .i64 y7, .int .i64 y8], .agg #[.int .i64 z0, .int .i64 z1, .int .i64 z2, .int .i64 z3], .int .i64 ln] ∧ xs.length ≤ 40000 ∧ Own w' w0.heap.size v xs) ∧ Below w0.heap.size w0 w' := by
  have HRB := Lib.hid hb
  clear hb
  go_enter Try.func41, Try.ntmps41
  go_wp2_with fail
  (go_at_call 60; go_call (l01From_any A n c bs _ B (HRB.out.below ((((Below.refl B w0).alloc hB0 _).alloc (by first | (simp; done) | (simp; omega)) _).alloc (by first | (simp; done) | (simp; omega)) _)) (by first | (simp; done) | (simp; omega)) hn) as e w ⟨rfl, hs, hb0⟩)
  have hI : (srcP 124 (w0.heap.size + 1 + 1 + 1) A n c bs B).I w := ⟨by simpa using hs, (HRB.out.below ((((Below.refl B w0).alloc hB0 _).alloc (by first | (simp; done) | (simp; omega)) _).alloc (by first | (simp; done) | (simp; omega)) _)).below (hb0.mono (by first | (simp; done) | (simp; omega))), by omega, hn⟩
  have hB0w : Below w0.heap.size w0 w := ((((Below.refl _ _).alloc (Nat.le_refl _) _).alloc (by simp) _).alloc (by first | (simp; done) | (simp; omega)) _).trans (hb0.mono (by first | (simp; done) | (simp; omega)))
  have k1 := blk_below (blk_alloc (u := .cells #[.int .i64 (0), .int .i64 (0), .int .i64 (0), .int .i64 (0)] 36) (blk_alloc (u := .cells #[.int .i64 (0), .int .i64 (0), .int .i64 (0), .int .i64 (0), .int .i64 (0), .int .i64 (0), .int .i64 (0), .int .i64 (0), .int .i64 (0)] 34) (heap_alloc_new w0 (.cells #[.int .i64 (0), .int .i64 (0), .slice none 0 0] 32)) (by simp)) (by first | (simp; done) | (simp; omega))) hb0 (by first | (simp; done) | (simp; omega))
  have k2 := blk_below (blk_alloc (u := .cells #[.int .i64 (0), .int .i64 (0), .int .i64 (0), .int .i64 (0)] 36) (heap_alloc_at (w := w0.alloc (.cells #[.int .i64 (0), .int .i64 (0), .slice none 0 0] 32)) (b := w0.heap.size + 1) (o := .cells #[.int .i64 (0), .int .i64 (0), .int .i64 (0), .int .i64 (0), .int .i64 (0), .int .i64 (0), .int .i64 (0), .int .i64 (0), .int .i64 (0)] 34) (by simp)) (by simp)) hb0 (by first | (simp; done) | (simp; omega))
  have k3 := blk_below (heap_alloc_at (w := (w0.alloc (.cells #[.int .i64 (0), .int .i64 (0), .slice none 0 0] 32)).alloc (.cells #[.int .i64 (0), .int .i64 (0), .int .i64 (0), .int .i64 (0), .int .i64 (0), .int .i64 (0), .int .i64 (0), .int .i64 (0), .int .i64 (0)] 34)) (b := w0.heap.size + 1 + 1) (o := .cells #[.int .i64 (0), .int .i64 (0), .int .i64 (0), .int .i64 (0)] 36) (by simp)) hb0 (by simp)
  simp only [World.size_alloc]
  obtain ⟨b, hbd⟩ : ∃ b, w0.heap.size + 1 + 1 + 1 = b := ⟨_, rfl⟩
  rw [hbd] at hI ⊢
  have hbw := srcP_lt hI
  have hlt3 : w0.heap.size + 1 + 1 < b := by omega
  have HKI : Hid (KB (srcP 124 b A n c bs B) w [(w0.heap.size + 1 + 1, .cells #[.int .i64 (0), .int .i64 (0), .int .i64 (0), .int .i64 (0)] 36 (0, 0)), (w0.heap.size + 1, .cells #[.int .i64 (0), .int .i64 (0), .int .i64 (0), .int .i64 (0), .int .i64 (0), .int .i64 (0), .int .i64 (0), .int .i64 (0), .int .i64 (0)] 34 (0, 0)), (w0.heap.size, .cells #[.int .i64 (0), .int .i64 (0), .slice none 0 0] 32 (0, 0))] w) := Lib.hid ⟨BX.refl _ _ _, hI, fun p hp => by
    simp only [List.mem_cons, List.not_mem_nil, or_false] at hp
    rcases hp with rfl | rfl | rfl
    · exact ⟨k3, by first | (simp; done) | (simp; omega)⟩
    · exact ⟨k2, by first | (simp; done) | (simp; omega)⟩
    · exact ⟨k1, by first | (simp; done) | (simp; omega)⟩⟩
  have H0 := Lib.hid hB0w
  clear hI k1 k2 k3 hs hb0 hB0w hbd
  go_wp2_with fail
  go_at_call 78
  with_reducible refine (l26DrawSmall_any b A n c bs B _ HKI.out.inv).mono ?_
  rintro e0 wa ⟨u0, rfl, hdr, hba⟩
  have HKa := Lib.hid (HKI.out.step hba)
  have hsa := hba.size
  obtain ⟨pr, pc, pv, xs, y0, y1, y2, y3, y4, y5, y6, y7, y8, z0, z1, z2, z3, rfl, hle, ho1⟩ := hdr
  obtain ⟨PA, pcp, rfl, -⟩ := ho1.shape
  obtain ⟨NP, hNP⟩ : ∃ L, xs.length = L := ⟨_, rfl⟩
  rw [hNP] at ho1 hle ⊢
  have HL := Lib.hid hNP
  have HOa := Lib.hid ho1
  have hbBs : ((srcP 124 b A n c bs B)).b < w.heap.size := hbw
  clear hba ho1 hNP HKI
  go_upto_region 3 with fail
  obtain ⟨b5, hb5⟩ : ∃ x, wa.heap.size = x := ⟨_, rfl⟩
  obtain ⟨b6, hb6⟩ : ∃ x, wa.heap.size + 1 = x := ⟨_, rfl⟩
  obtain ⟨b7, hb7⟩ : ∃ x, wa.heap.size + 1 + 1 = x := ⟨_, rfl⟩
  have hsz5 : w.heap.size ≤ b5 ∧ b5 < b6 ∧ b6 < b7 := by omega
  refine gen_world (P := fun W' => Code.wp _ _ _ _ W') (Q := fun W' => KB (srcP 124 b A n c bs B) w [(b7, .cells #[.int .i64 z0, .int .i64 z1, .int .i64 z2, .int .i64 z3] 36 (0, 0)), (b6, .cells #[.int .i64 y0, .int .i64 y1, .int .i64 y2, .int .i64 y3, .int .i64 y4, .int .i64 y5, .int .i64 y6, .int .i64 y7, .int .i64 y8] 34 (0, 0)), (b5, .cells #[.int .i64 pr, .int .i64 pc, .slice PA NP pcp] 32 (0, 0)), (w0.heap.size + 1 + 1, .cells #[.int .i64 (0), .int .i64 (0), .int .i64 (0), .int .i64 (0)] 36 (0, 0)), (w0.heap.size + 1, .cells #[.int .i64 (0), .int .i64 (0), .int .i64 (0), .int .i64 (0), .int .i64 (0), .int .i64 (0), .int .i64 (0), .int .i64 (0), .int .i64 (0)] 34 (0, 0)), (w0.heap.size, .cells #[.int .i64 (0), .int .i64 (0), .slice none 0 0] 32 (0, 0))] W' ∧ Own W' w.heap.size (.slice PA NP pcp) xs) ?_ ?_
  · exact ⟨((HKa.out.push _ _ hb5).push _ _ (by simpa using hb6)).push _ _ (by simpa using hb7), HOa.out.keep ((((Below.refl _ _).alloc (Nat.le_refl _) _).alloc (by simp) _).alloc (by first | (simp; done) | (simp; omega)) _)⟩
  rintro w1 ⟨hkq, hoq⟩
  have HK1 := Lib.hid hkq
  have HO1 := Lib.hid hoq
  rw [hb7, hb6, hb5]
  clear hkq hoq hb5 hb6 hb7 HKa HOa hsa
  have kp := HK1.out.get (g := b5) (o := .cells #[.int .i64 pr, .int .i64 pc, .slice PA NP pcp] 32 (0, 0)) (by simp)
  have km := HK1.out.get (g := b6) (o := .cells #[.int .i64 y0, .int .i64 y1, .int .i64 y2, .int .i64 y3, .int .i64 y4, .int .i64 y5, .int .i64 y6, .int .i64 y7, .int .i64 y8] 34 (0, 0)) (by simp)
  have kg := HK1.out.get (g := b7) (o := .cells #[.int .i64 z0, .int .i64 z1, .int .i64 z2, .int .i64 z3] 36 (0, 0)) (by simp)
  have kR := HK1.out.get (g := w0.heap.size) (o := .cells #[.int .i64 (0), .int .i64 (0), .slice none 0 0] 32 (0, 0)) (by simp)
  have kM := HK1.out.get (g := w0.heap.size + 1) (o := .cells #[.int .i64 (0), .int .i64 (0), .int .i64 (0), .int .i64 (0), .int .i64 (0), .int .i64 (0), .int .i64 (0), .int .i64 (0), .int .i64 (0)] 34 (0, 0)) (by simp)
  have kS := HK1.out.get (g := w0.heap.size + 1 + 1) (o := .cells #[.int .i64 (0), .int .i64 (0), .int .i64 (0), .int .i64 (0)] 36 (0, 0)) (by simp)
  obtain ⟨a0, a1, a2, af⟩ := blk3 kR
  obtain ⟨c0, c1, c2, c3, c4, c5, c6, c7, c8, cf⟩ := blk9 kM
  obtain ⟨d0, d1, d2, d3, df⟩ := blk4q kS
  obtain ⟨p0, p1, p2, n0, n1, n2, n3, n4, n5, n6, n7, n8, g0, g1, g2, g3⟩ := tri16 kp km kg
  have npR : b5 ≠ w0.heap.size := by omega
  have npM : b5 ≠ w0.heap.size + 1 := by omega
  have npS : b5 ≠ w0.heap.size + 1 + 1 := by omega
  have nmR : b6 ≠ w0.heap.size := by omega
  have nmM : b6 ≠ w0.heap.size + 1 := by omega
  have nmS : b6 ≠ w0.heap.size + 1 + 1 := by omega
  have ngR : b7 ≠ w0.heap.size := by omega
  have ngM : b7 ≠ w0.heap.size + 1 := by omega
  have ngS : b7 ≠ w0.heap.size + 1 + 1 := by omega
  go_wp2_with fail
  go_region_held3 (fun w' => w'.cell? ⟨b5, 0, none⟩ = some (.int .i64 pr) ∧ w'.cell? ⟨b5, 1, none⟩ = some (.int .i64 pc) ∧ w'.cell? ⟨b5, 2, none⟩ = some (.slice PA NP pcp) ∧ w'.cell? ⟨b6, 0, none⟩ = some (.int .i64 y0) ∧ w'.cell? ⟨b6, 1, none⟩ = some (.int .i64 y1) ∧ w'.cell? ⟨b6, 2, none⟩ = some (.int .i64 y2) ∧ w'.cell? ⟨b6, 3, none⟩ = some (.int .i64 y3) ∧ w'.cell? ⟨b6, 4, none⟩ = some (.int .i64 y4) ∧ w'.cell? ⟨b6, 5, none⟩ = some (.int .i64 y5) ∧ w'.cell? ⟨b6, 6, none⟩ = some (.int .i64 y6) ∧ w'.cell? ⟨b6, 7, none⟩ = some (.int .i64 y7) ∧ w'.cell? ⟨b6, 8, none⟩ = some (.int .i64 y8) ∧ w'.cell? ⟨b7, 0, none⟩ = some (.int .i64 z0) ∧ w'.cell? ⟨b7, 1, none⟩ = some (.int .i64 z1) ∧ w'.cell? ⟨b7, 2, none⟩ = some (.int .i64 z2) ∧ w'.cell? ⟨b7, 3, none⟩ = some (.int .i64 z3))
    (first | with_reducible exact ⟨p0, p1, p2, n0, n1, n2, n3, n4, n5, n6, n7, n8, g0, g1, g2, g3⟩ | with_reducible exact tri16 kp km kg | with_reducible exact tri16 (blk_other (blk_other (blk_other kp npR) npR) npR) (blk_other (blk_other (blk_other km nmR) nmR) nmR) (blk_other (blk_other (blk_other kg ngR) ngR) ngR) | with_reducible exact tri16 (blk_other (blk_other (blk_other (blk_other (blk_other (blk_other (blk_other (blk_other (blk_other (blk_other (blk_other (blk_other kp npR) npR) npR) npM) npM) npM) npM) npM) npM) npM) npM) npM) (blk_other (blk_other (blk_other (blk_other (blk_other (blk_other (blk_other (blk_other (blk_other (blk_other (blk_other (blk_other km nmR) nmR) nmR) nmM) nmM) nmM) nmM) nmM) nmM) nmM) nmM) nmM) (blk_other (blk_other (blk_other (blk_other (blk_other (blk_other (blk_other (blk_other (blk_other (blk_other (blk_other (blk_other kg ngR) ngR) ngR) ngM) ngM) ngM) ngM) ngM) ngM) ngM) ngM) ngM) | with_reducible exact tri16 (blk_other (blk_other (blk_other (blk_other (blk_other (blk_other (blk_other (blk_other (blk_other (blk_other (blk_other (blk_other (blk_other (blk_other (blk_other (blk_other kp npR) npR) npR) npM) npM) npM) npM) npM) npM) npM) npM) npM) npS) npS) npS) npS) (blk_other (blk_other (blk_other (blk_other (blk_other (blk_other (blk_other (blk_other (blk_other (blk_other (blk_other (blk_other (blk_other (blk_other (blk_other (blk_other km nmR) nmR) nmR) nmM) nmM) nmM) nmM) nmM) nmM) nmM) nmM) nmM) nmS) nmS) nmS) nmS) (blk_other (blk_other (blk_other (blk_other (blk_other (blk_other (blk_other (blk_other (blk_other (blk_other (blk_other (blk_other (blk_other (blk_other (blk_other (blk_other kg ngR) ngR) ngR) ngM) ngM) ngM) ngM) ngM) ngM) ngM) ngM) ngM) ngS) ngS) ngS) ngS) | with_reducible exact tri16d (blk_other (blk_other (blk_other kp npR) npR) npR) (blk_other (blk_other (blk_other km nmR) nmR) nmR) (blk_other (blk_other (blk_other kg ngR) ngR) ngR) | with_reducible exact tri16d (blk_other (blk_other (blk_other (blk_other (blk_other (blk_other (blk_other (blk_other (blk_other (blk_other (blk_other (blk_other kp npR) npR) npR) npM) npM) npM) npM) npM) npM) npM) npM) npM) (blk_other (blk_other (blk_other (blk_other (blk_other (blk_other (blk_other (blk_other (blk_other (blk_other (blk_other (blk_other km nmR) nmR) nmR) nmM) nmM) nmM) nmM) nmM) nmM) nmM) nmM) nmM) (blk_other (blk_other (blk_other (blk_other (blk_other (blk_other (blk_other (blk_other (blk_other (blk_other (blk_other (blk_other kg ngR) ngR) ngR) ngM) ngM) ngM) ngM) ngM) ngM) ngM) ngM) ngM) | with_reducible exact tri16d (blk_other (blk_other (blk_other (blk_other (blk_other (blk_other (blk_other (blk_other (blk_other (blk_other (blk_other (blk_other (blk_other (blk_other (blk_other (blk_other kp npR) npR) npR) npM) npM) npM) npM) npM) npM) npM) npM) npM) npS) npS) npS) npS) (blk_other (blk_other (blk_other (blk_other (blk_other (blk_other (blk_other (blk_other (blk_other (blk_other (blk_other (blk_other (blk_other (blk_other (blk_other (blk_other km nmR) nmR) nmR) nmM) nmM) nmM) nmM) nmM) nmM) nmM) nmM) nmM) nmS) nmS) nmS) nmS) (blk_other (blk_other (blk_other (blk_other (blk_other (blk_other (blk_other (blk_other (blk_other (blk_other (blk_other (blk_other (blk_other (blk_other (blk_other (blk_other kg ngR) ngR) ngR) ngM) ngM) ngM) ngM) ngM) ngM) ngM) ngM) ngM) ngS) ngS) ngS) ngS) | go_keep)
    (first
  | (go_at_call 79; with_reducible refine (draw_any b A n c bs B 20 _ ?_ (by omega)).mono ?_; (focus (first | exact HK3.out.inv | exact HK3.out.drew.inv)); rintro e4 w4 ⟨u4, rfl, ⟨r4, rfl, hr4a, hr4b⟩, hb4⟩; (first | have HK4 := Lib.hid (HK3.out.step hb4) | have HK4 := Lib.hid (HK3.out.drew.step hb4)); (first | have HO4 := Lib.hid (HO3.out.bx hb4 hbBs) | have HO4 := Lib.hid ((Own.keep HO3.out (Below.refl _ _).drew).bx hb4 hbBs)); clear hb4; have kp := HK4.out.get (g := b5) (o := .cells #[.int .i64 pr, .int .i64 pc, .slice PA NP pcp] 32 (0, 0)) (by simp); have km := HK4.out.get (g := b6) (o := .cells #[.int .i64 y0, .int .i64 y1, .int .i64 y2, .int .i64 y3, .int .i64 y4, .int .i64 y5, .int .i64 y6, .int .i64 y7, .int .i64 y8] 34 (0, 0)) (by simp); have kg := HK4.out.get (g := b7) (o := .cells #[.int .i64 z0, .int .i64 z1, .int .i64 z2, .int .i64 z3] 36 (0, 0)) (by simp); have kR := HK4.out.get (g := w0.heap.size) (o := .cells #[.int .i64 (0), .int .i64 (0), .slice none 0 0] 32 (0, 0)) (by simp); have kM := HK4.out.get (g := w0.heap.size + 1) (o := .cells #[.int .i64 (0), .int .i64 (0), .int .i64 (0), .int .i64 (0), .int .i64 (0), .int .i64 (0), .int .i64 (0), .int .i64 (0), .int .i64 (0)] 34 (0, 0)) (by simp); have kS := HK4.out.get (g := w0.heap.size + 1 + 1) (o := .cells #[.int .i64 (0), .int .i64 (0), .int .i64 (0), .int .i64 (0)] 36 (0, 0)) (by simp); obtain ⟨a0, a1, a2, af⟩ := blk3 kR; obtain ⟨c0, c1, c2, c3, c4, c5, c6, c7, c8, cf⟩ := blk9 kM; obtain ⟨d0, d1, d2, d3, df⟩ := blk4q kS)
  | (go_at_call 79; with_reducible refine (draw_any b A n c bs B 20 _ ?_ (by omega)).mono ?_; (focus (first | exact HK2.out.inv | exact HK2.out.drew.inv)); rintro e3 w3 ⟨u3, rfl, ⟨r3, rfl, hr3a, hr3b⟩, hb3⟩; (first | have HK3 := Lib.hid (HK2.out.step hb3) | have HK3 := Lib.hid (HK2.out.drew.step hb3)); (first | have HO3 := Lib.hid (HO2.out.bx hb3 hbBs) | have HO3 := Lib.hid ((Own.keep HO2.out (Below.refl _ _).drew).bx hb3 hbBs)); clear hb3; have kp := HK3.out.get (g := b5) (o := .cells #[.int .i64 pr, .int .i64 pc, .slice PA NP pcp] 32 (0, 0)) (by simp); have km := HK3.out.get (g := b6) (o := .cells #[.int .i64 y0, .int .i64 y1, .int .i64 y2, .int .i64 y3, .int .i64 y4, .int .i64 y5, .int .i64 y6, .int .i64 y7, .int .i64 y8] 34 (0, 0)) (by simp); have kg := HK3.out.get (g := b7) (o := .cells #[.int .i64 z0, .int .i64 z1, .int .i64 z2, .int .i64 z3] 36 (0, 0)) (by simp); have kR := HK3.out.get (g := w0.heap.size) (o := .cells #[.int .i64 (0), .int .i64 (0), .slice none 0 0] 32 (0, 0)) (by simp); have kM := HK3.out.get (g := w0.heap.size + 1) (o := .cells #[.int .i64 (0), .int .i64 (0), .int .i64 (0), .int .i64 (0), .int .i64 (0), .int .i64 (0), .int .i64 (0), .int .i64 (0), .int .i64 (0)] 34 (0, 0)) (by simp); have kS := HK3.out.get (g := w0.heap.size + 1 + 1) (o := .cells #[.int .i64 (0), .int .i64 (0), .int .i64 (0), .int .i64 (0)] 36 (0, 0)) (by simp); obtain ⟨a0, a1, a2, af⟩ := blk3 kR; obtain ⟨c0, c1, c2, c3, c4, c5, c6, c7, c8, cf⟩ := blk9 kM; obtain ⟨d0, d1, d2, d3, df⟩ := blk4q kS)
  | (go_at_call 79; with_reducible refine (draw_any b A n c bs B 4 _ ?_ (by omega)).mono ?_; (focus (first | exact HK1.out.inv | exact HK1.out.drew.inv)); rintro e2 w2 ⟨u2, rfl, ⟨r2, rfl, hr2a, hr2b⟩, hb2⟩; (first | have HK2 := Lib.hid (HK1.out.step hb2) | have HK2 := Lib.hid (HK1.out.drew.step hb2)); (first | have HO2 := Lib.hid (HO1.out.bx hb2 hbBs) | have HO2 := Lib.hid ((Own.keep HO1.out (Below.refl _ _).drew).bx hb2 hbBs)); clear hb2; have kp := HK2.out.get (g := b5) (o := .cells #[.int .i64 pr, .int .i64 pc, .slice PA NP pcp] 32 (0, 0)) (by simp); have km := HK2.out.get (g := b6) (o := .cells #[.int .i64 y0, .int .i64 y1, .int .i64 y2, .int .i64 y3, .int .i64 y4, .int .i64 y5, .int .i64 y6, .int .i64 y7, .int .i64 y8] 34 (0, 0)) (by simp); have kg := HK2.out.get (g := b7) (o := .cells #[.int .i64 z0, .int .i64 z1, .int .i64 z2, .int .i64 z3] 36 (0, 0)) (by simp); have kR := HK2.out.get (g := w0.heap.size) (o := .cells #[.int .i64 (0), .int .i64 (0), .slice none 0 0] 32 (0, 0)) (by simp); have kM := HK2.out.get (g := w0.heap.size + 1) (o := .cells #[.int .i64 (0), .int .i64 (0), .int .i64 (0), .int .i64 (0), .int .i64 (0), .int .i64 (0), .int .i64 (0), .int .i64 (0), .int .i64 (0)] 34 (0, 0)) (by simp); have kS := HK2.out.get (g := w0.heap.size + 1 + 1) (o := .cells #[.int .i64 (0), .int .i64 (0), .int .i64 (0), .int .i64 (0)] 36 (0, 0)) (by simp); obtain ⟨a0, a1, a2, af⟩ := blk3 kR; obtain ⟨c0, c1, c2, c3, c4, c5, c6, c7, c8, cf⟩ := blk9 kM; obtain ⟨d0, d1, d2, d3, df⟩ := blk4q kS))
  have HO4' := Lib.hid (HO4.out.more (show w0.heap.size + 1 + 1 + 1 ≤ w.heap.size by omega))
  have HBF := Lib.hid (H0.out.trans ((HK4.out.bx.mono (show w0.heap.size ≤ w.heap.size by omega)).below (show w0.heap.size ≤ b by omega)))
  have nRM : w0.heap.size ≠ w0.heap.size + 1 := by omega
  have nRS : w0.heap.size ≠ w0.heap.size + 1 + 1 := by omega
  have nMR : w0.heap.size + 1 ≠ w0.heap.size := by omega
  have nMS : w0.heap.size + 1 ≠ w0.heap.size + 1 + 1 := by omega
  have nSR : w0.heap.size + 1 + 1 ≠ w0.heap.size := by omega
  have nSM : w0.heap.size + 1 + 1 ≠ w0.heap.size + 1 := by omega
  have lR : w0.heap.size < w0.heap.size + 1 + 1 + 1 := by omega
  have lM : w0.heap.size + 1 < w0.heap.size + 1 + 1 + 1 := by omega
  have lS : w0.heap.size + 1 + 1 < w0.heap.size + 1 + 1 + 1 := by omega
  have gM : w0.heap.size ≤ w0.heap.size + 1 := by omega
  have gS : w0.heap.size ≤ w0.heap.size + 1 + 1 := by omega
  obtain ⟨s0, s1, s2, -⟩ := blk3 (blk_other (k := 3) (u := .int .i64 z3) (blk_other (k := 2) (u := .int .i64 z2) (blk_other (k := 1) (u := .int .i64 z1) (blk_other (k := 0) (u := .int .i64 z0) (blk_other (k := 8) (u := .int .i64 y8) (blk_other (k := 7) (u := .int .i64 y7) (blk_other (k := 6) (u := .int .i64 y6) (blk_other (k := 5) (u := .int .i64 y5) (blk_other (k := 4) (u := .int .i64 y4) (blk_other (k := 3) (u := .int .i64 y3) (blk_other (k := 2) (u := .int .i64 y2) (blk_other (k := 1) (u := .int .i64 y1) (blk_other (k := 0) (u := .int .i64 y0) (blk3_2 (u := .slice PA NP pcp) (blk3_1 (u := .int .i64 pc) (blk3_0 (u := .int .i64 pr) kR))) nRM) nRM) nRM) nRM) nRM) nRM) nRM) nRM) nRM) nRS) nRS) nRS) nRS)
  obtain ⟨t0, t1, t2, t3, t4, t5, t6, t7, t8, -⟩ := blk9 (blk_other (k := 3) (u := .int .i64 z3) (blk_other (k := 2) (u := .int .i64 z2) (blk_other (k := 1) (u := .int .i64 z1) (blk_other (k := 0) (u := .int .i64 z0) (res9 (blk_other (k := 2) (u := .slice PA NP pcp) (blk_other (k := 1) (u := .int .i64 pc) (blk_other (k := 0) (u := .int .i64 pr) kM nMR) nMR) nMR) (.int .i64 y0) (.int .i64 y1) (.int .i64 y2) (.int .i64 y3) (.int .i64 y4) (.int .i64 y5) (.int .i64 y6) (.int .i64 y7) (.int .i64 y8)) nMS) nMS) nMS) nMS)
  obtain ⟨q0, q1, q2, q3, -⟩ := blk4q (res4q (blk_other (k := 8) (u := .int .i64 y8) (blk_other (k := 7) (u := .int .i64 y7) (blk_other (k := 6) (u := .int .i64 y6) (blk_other (k := 5) (u := .int .i64 y5) (blk_other (k := 4) (u := .int .i64 y4) (blk_other (k := 3) (u := .int .i64 y3) (blk_other (k := 2) (u := .int .i64 y2) (blk_other (k := 1) (u := .int .i64 y1) (blk_other (k := 0) (u := .int .i64 y0) (blk_other (k := 2) (u := .slice PA NP pcp) (blk_other (k := 1) (u := .int .i64 pc) (blk_other (k := 0) (u := .int .i64 pr) kS nSR) nSR) nSR) nSM) nSM) nSM) nSM) nSM) nSM) nSM) nSM) nSM) (.int .i64 z0) (.int .i64 z1) (.int .i64 z2) (.int .i64 z3))
  go_wp2_with fail
  (try simp only [Exit.inBlock, Exit.then]); refine bodyPost_ret (by simp [results, Try.results41, go_sem, s0, s1, s2, t0, t1, t2, t3, t4, t5, t6, t7, t8, q0, q1, q2, q3]; try rfl) rfl ?_
  exact ⟨_, rfl, ⟨_, _, _, xs, _, _, _, _, _, _, _, _, _, _, _, _, _, _, rfl, by rw [HL.out]; exact hle, Own.more (Own.setLt (Own.setLt (Own.setLt (Own.setLt (Own.setLt (Own.setLt (Own.setLt (Own.setLt (Own.setLt (Own.setLt (Own.setLt (Own.setLt (Own.setLt (Own.setLt (Own.setLt (Own.setLt HO4'.out (p := ⟨w0.heap.size, 0, none⟩) lR (.int .i64 pr)) (p := ⟨w0.heap.size, 1, none⟩) lR (.int .i64 pc)) (p := ⟨w0.heap.size, 2, none⟩) lR (.slice PA NP pcp)) (p := ⟨w0.heap.size + 1, 0, none⟩) lM (.int .i64 y0)) (p := ⟨w0.heap.size + 1, 1, none⟩) lM (.int .i64 y1)) (p := ⟨w0.heap.size + 1, 2, none⟩) lM (.int .i64 y2)) (p := ⟨w0.heap.size + 1, 3, none⟩) lM (.int .i64 y3)) (p := ⟨w0.heap.size + 1, 4, none⟩) lM (.int .i64 y4)) (p := ⟨w0.heap.size + 1, 5, none⟩) lM (.int .i64 y5)) (p := ⟨w0.heap.size + 1, 6, none⟩) lM (.int .i64 y6)) (p := ⟨w0.heap.size + 1, 7, none⟩) lM (.int .i64 y7)) (p := ⟨w0.heap.size + 1, 8, none⟩) lM (.int .i64 y8)) (p := ⟨w0.heap.size + 1 + 1, 0, none⟩) lS (.int .i64 z0)) (p := ⟨w0.heap.size + 1 + 1, 1, none⟩) lS (.int .i64 z1)) (p := ⟨w0.heap.size + 1 + 1, 2, none⟩) lS (.int .i64 z2)) (p := ⟨w0.heap.size + 1 + 1, 3, none⟩) lS (.int .i64 z3)) (by omega)⟩, (Below.setCell (p := ⟨w0.heap.size + 1 + 1, 3, none⟩) (Below.setCell (p := ⟨w0.heap.size + 1 + 1, 2, none⟩) (Below.setCell (p := ⟨w0.heap.size + 1 + 1, 1, none⟩) (Below.setCell (p := ⟨w0.heap.size + 1 + 1, 0, none⟩) (Below.setCell (p := ⟨w0.heap.size + 1, 8, none⟩) (Below.setCell (p := ⟨w0.heap.size + 1, 7, none⟩) (Below.setCell (p := ⟨w0.heap.size + 1, 6, none⟩) (Below.setCell (p := ⟨w0.heap.size + 1, 5, none⟩) (Below.setCell (p := ⟨w0.heap.size + 1, 4, none⟩) (Below.setCell (p := ⟨w0.heap.size + 1, 3, none⟩) (Below.setCell (p := ⟨w0.heap.size + 1, 2, none⟩) (Below.setCell (p := ⟨w0.heap.size + 1, 1, none⟩) (Below.setCell (p := ⟨w0.heap.size + 1, 0, none⟩) (Below.setCell (p := ⟨w0.heap.size, 2, none⟩) (Below.setCell (p := ⟨w0.heap.size, 1, none⟩) (Below.setCell (p := ⟨w0.heap.size, 0, none⟩) HBF.out (Nat.le_refl _) (.int .i64 pr)) (Nat.le_refl _) (.int .i64 pc)) (Nat.le_refl _) (.slice PA NP pcp)) gM (.int .i64 y0)) gM (.int .i64 y1)) gM (.int .i64 y2)) gM (.int .i64 y3)) gM (.int .i64 y4)) gM (.int .i64 y5)) gM (.int .i64 y6)) gM (.int .i64 y7)) gM (.int .i64 y8)) gS (.int .i64 z0)) gS (.int .i64 z1)) gS (.int .i64 z2)) gS (.int .i64 z3))⟩

end Go.Proofs.Ytflpllmbpfdnjaa
