/-
  Contracts of chapter 24: the corners of a symbol, the walks. Printed by gen/c24c.py.
-/
import Derived.Test.YtnhhbpdjapccpaaC24C
import Derived.Test.YtnhhbpdjapccpaaBlk
import Derived.Test.YtnhhbpdjapccpaaHold
namespace Go.Proofs.Ytnhhbpdjapccpaa
open Go.RowKit

theorem gen_worldC {P Q : World → Prop} {W : World} (h : Q W) (k : ∀ W', Q W' → P W') : P W := k W h
theorem RowAt.oth {w : World} {b t c k : Nat} {xs : List Int} {u : Value} (h : RowAt w b t xs) (hne : b ≠ c) : RowAt (w.setCell ⟨c, k, none⟩ u) b t xs := blk_other h hne
/-- Two blocks u, v, a result r (all of numbers), a spot s. -/
structure CP1 (w0 : World) (ts tq : Nat) (s u v r : List Int) (gu gv : Nat) (W : World) : Prop where
  sz : w0.heap.size + 1 + 1 + 1 < gu ∧ w0.heap.size + 1 + 1 + 1 < gv ∧ gu ≠ gv ∧ gu < W.heap.size ∧ gv < W.heap.size
  bl : Below w0.heap.size w0 W
  rs : RowAt W w0.heap.size ts s
  ru : RowAt W gu ts u
  rv : RowAt W gv ts v
  rr : RowAt W (w0.heap.size + 1 + 1 + 1) tq r
theorem CP1.setu {w0 W : World} {ts tq gu gv : Nat} {s u v r : List Int} (h : CP1 w0 ts tq s u v r gu gv W) (k : Nat) (x : Int) : CP1 w0 ts tq s (u.set k x) v r gu gv (W.setCell ⟨gu, k, none⟩ (.int .i64 x)) := by
  obtain ⟨⟨h1, h2, h3, h4, h5⟩, bl, rs, ru, rv, rr⟩ := h
  exact ⟨⟨h1, h2, h3, by simpa using h4, by simpa using h5⟩, bl.setCell (by simp; omega) _, rs.oth (by omega), ru.set x, rv.oth (by omega), rr.oth (by omega)⟩
theorem CP1.setv {w0 W : World} {ts tq gu gv : Nat} {s u v r : List Int} (h : CP1 w0 ts tq s u v r gu gv W) (k : Nat) (x : Int) : CP1 w0 ts tq s u (v.set k x) r gu gv (W.setCell ⟨gv, k, none⟩ (.int .i64 x)) := by
  obtain ⟨⟨h1, h2, h3, h4, h5⟩, bl, rs, ru, rv, rr⟩ := h
  exact ⟨⟨h1, h2, h3, by simpa using h4, by simpa using h5⟩, bl.setCell (by simp; omega) _, rs.oth (by omega), ru.oth (by omega), rv.set x, rr.oth (by omega)⟩
/-- As CP1, a quad q besides, no spot. -/
structure CP2 (w0 : World) (ts tq : Nat) (u v r q : List Int) (gu gv gq : Nat) (W : World) : Prop where
  sz : w0.heap.size + 1 + 1 + 1 < gu ∧ w0.heap.size + 1 + 1 + 1 < gv ∧ gu ≠ gv ∧ gu < W.heap.size ∧ gv < W.heap.size ∧ w0.heap.size + 1 + 1 + 1 < gq ∧ gq ≠ gu ∧ gq ≠ gv ∧ gq < W.heap.size
  bl : Below w0.heap.size w0 W
  ru : RowAt W gu ts u
  rv : RowAt W gv ts v
  rr : RowAt W (w0.heap.size + 1 + 1 + 1) tq r
  rq : RowAt W gq tq q
theorem CP2.setq {w0 W : World} {ts tq gu gv gq : Nat} {u v r q : List Int} (h : CP2 w0 ts tq u v r q gu gv gq W) (k : Nat) (x : Int) : CP2 w0 ts tq u v r (q.set k x) gu gv gq (W.setCell ⟨gq, k, none⟩ (.int .i64 x)) := by
  obtain ⟨⟨h1, h2, h3, h4, h5, h6, h7, h8, h9⟩, bl, ru, rv, rr, rq⟩ := h
  exact ⟨⟨h1, h2, h3, by simpa using h4, by simpa using h5, h6, h7, h8, by simpa using h9⟩, bl.setCell (by simp; omega) _, ru.oth (by omega), rv.oth (by omega), rr.oth (by omega), rq.set x⟩
theorem CP2.below {w0 W W' : World} {ts tq gu gv gq : Nat} {u v r q : List Int} (h : CP2 w0 ts tq u v r q gu gv gq W) (hb : Below W.heap.size W W') : CP2 w0 ts tq u v r q gu gv gq W' := by
  obtain ⟨⟨h1, h2, h3, h4, h5, h6, h7, h8, h9⟩, bl, ru, rv, rr, rq⟩ := h
  have hs := hb.size
  exact ⟨⟨h1, h2, h3, by omega, by omega, h6, h7, h8, by omega⟩, bl.trans (hb.mono (by omega)), ru.below hb h4, rv.below hb h5, rr.below hb (by omega), rq.below hb h9⟩
theorem CP2.of1 {w0 W W' : World} {ts tq gu gv gq : Nat} {s u v r q : List Int} (h : CP1 w0 ts tq s u v r gu gv W) (hb : Below W.heap.size W W') (hq : RowAt W' gq tq q) (hg : W.heap.size ≤ gq) : CP2 w0 ts tq u v r q gu gv gq W' := by
  obtain ⟨⟨h1, h2, h3, h4, h5⟩, bl, rs, ru, rv, rr⟩ := h
  have hs := hb.size
  exact ⟨⟨h1, h2, h3, by omega, by omega, by omega, by omega, by omega, hq.lt⟩, bl.trans (hb.mono (by omega)), ru.below hb h4, rv.below hb h5, rr.below hb (by omega), hq⟩
def cnA (a u v n : Int) : Int := a - (u + v) * 7 / (2 * (n - 7))
def cnB (A u n : Int) : Int := A + u * n / (n - 7)

set_option maxHeartbeats 4000000 in
theorem cornersOf_any (ax ay bx bY cx cy n : Int) (w : World) (ra : spotB ax ay = true) (rb : spotB bx bY = true) (rc : spotB cx cy = true) (hn1 : 17 ≤ n) (hn2 : n ≤ 41)
    (Ax Ay Bx By Dx Dy : Int) (hA : Ax = cnA ax (bx - ax) (cx - ax) n) (hAy : Ay = cnA ay (bY - ay) (cy - ay) n) (hB : Bx = cnB Ax (bx - ax) n) (hBy : By = cnB Ay (bY - ay) n) (hD : Dx = cnB Ax (cx - ax) n) (hDy : Dy = cnB Ay (cy - ay) n) :
    Calls Try.prog 66 #[.agg #[.int .i64 ax, .int .i64 ay], .agg #[.int .i64 bx, .int .i64 bY], .agg #[.int .i64 cx, .int .i64 cy], .int .i64 n] w fun e w' => e = .returned (.agg #[.int .i64 Ax, .int .i64 Ay, .int .i64 Bx, .int .i64 By, .int .i64 (Bx + Dx - Ax), .int .i64 (By + Dy - Ay), .int .i64 Dx, .int .i64 Dy]) ∧ Below w.heap.size w w' := by
  obtain ⟨a1, a2, a3, a4⟩ := spotB_true ra
  obtain ⟨b1, b2, b3, b4⟩ := spotB_true rb
  obtain ⟨c1, c2, c3, c4⟩ := spotB_true rc
  obtain ⟨ux, hux⟩ : ∃ x, bx - ax = x := ⟨_, rfl⟩
  obtain ⟨uy, huy⟩ : ∃ x, bY - ay = x := ⟨_, rfl⟩
  obtain ⟨vx, hvx⟩ : ∃ x, cx - ax = x := ⟨_, rfl⟩
  obtain ⟨vy, hvy⟩ : ∃ x, cy - ay = x := ⟨_, rfl⟩
  obtain ⟨m, hm⟩ : ∃ m, n - 7 = m := ⟨_, rfl⟩
  rw [hux] at hA hB
  rw [huy] at hAy hBy
  rw [hvx] at hA hD
  rw [hvy] at hAy hDy
  unfold cnA at hA hAy
  unfold cnB at hB hBy hD hDy
  rw [hm] at hA hAy hB hBy hD hDy
  have d1 := ediv_rg (show 0 < 2 * m by omega) 112000 (a := (ux + vx) * 7) (by omega) (by omega)
  have d2 := ediv_rg (show 0 < 2 * m by omega) 112000 (a := (uy + vy) * 7) (by omega) (by omega)
  have p1 : -328000 ≤ ux * n ∧ ux * n ≤ 328000 := mul_rg 8000 41 (by omega) (by omega) (by omega) (by omega)
  have p2 : -328000 ≤ uy * n ∧ uy * n ≤ 328000 := mul_rg 8000 41 (by omega) (by omega) (by omega) (by omega)
  have p3 : -328000 ≤ vx * n ∧ vx * n ≤ 328000 := mul_rg 8000 41 (by omega) (by omega) (by omega) (by omega)
  have p4 : -328000 ≤ vy * n ∧ vy * n ≤ 328000 := mul_rg 8000 41 (by omega) (by omega) (by omega) (by omega)
  have d3 := ediv_rg (show 0 < m by omega) 328000 p1.1 p1.2
  have d4 := ediv_rg (show 0 < m by omega) 328000 p2.1 p2.2
  have d5 := ediv_rg (show 0 < m by omega) 328000 p3.1 p3.2
  have d6 := ediv_rg (show 0 < m by omega) 328000 p4.1 p4.2
  have m1 := fun w => minus_any bx bY ax ay w (by omega) (by omega) (by omega) (by omega) (by omega) (by omega) (by omega) (by omega)
  have m2 := fun w => minus_any cx cy ax ay w (by omega) (by omega) (by omega) (by omega) (by omega) (by omega) (by omega) (by omega)
  rw [hux, huy] at m1
  rw [hvx, hvy] at m2
  have m3 := fun w => plus_any ux uy vx vy w (by omega) (by omega) (by omega) (by omega) (by omega) (by omega) (by omega) (by omega)
  have m4 := fun w => share_any (ux + vx) (uy + vy) 7 (2 * m) w (by omega) (by omega) (by omega) (by omega) (by omega) (by omega)
  have m5 := fun w => minus_any ax ay ((ux + vx) * 7 / (2 * m)) ((uy + vy) * 7 / (2 * m)) w (by omega) (by omega) (by omega) (by omega) (by omega) (by omega) (by omega) (by omega)
  rw [← hA, ← hAy] at m5
  have m6 := fun w => share_any ux uy n m w (by omega) (by omega) (by omega) (by omega) (by omega) (by omega)
  have m7 := fun w => plus_any Ax Ay (ux * n / m) (uy * n / m) w (by omega) (by omega) (by omega) (by omega) (by omega) (by omega) (by omega) (by omega)
  rw [← hB, ← hBy] at m7
  have m8 := fun w => share_any vx vy n m w (by omega) (by omega) (by omega) (by omega) (by omega) (by omega)
  have m9 := fun w => plus_any Ax Ay (vx * n / m) (vy * n / m) w (by omega) (by omega) (by omega) (by omega) (by omega) (by omega) (by omega) (by omega)
  rw [← hD, ← hDy] at m9
  have m10 := fun w => plus_any Bx By Dx Dy w (by omega) (by omega) (by omega) (by omega) (by omega) (by omega) (by omega) (by omega)
  have m11 := fun w => minus_any (Bx + Dx) (By + Dy) Ax Ay w (by omega) (by omega) (by omega) (by omega) (by omega) (by omega) (by omega) (by omega)
  have M1 := Lib.hid m1
  have M2 := Lib.hid m2
  have M3 := Lib.hid m3
  have M4 := Lib.hid m4
  have M5 := Lib.hid m5
  have M6 := Lib.hid m6
  have M7 := Lib.hid m7
  have M8 := Lib.hid m8
  have M9 := Lib.hid m9
  have M10 := Lib.hid m10
  have M11 := Lib.hid m11
  have e1 : IntKind.i64.wrap (n - 7) = m := by rw [hm]; exact wrapC (by omega) (by omega)
  have e2 : IntKind.i64.wrap (2 * m) = 2 * m := wrapC (by omega) (by omega)
  clear m1 m2 m3 m4 m5 m6 m7 m8 m9 m10 m11 d1 d2 d3 d4 d5 d6 p1 p2 p3 p4 hA hAy hB hBy hD hDy hux huy hvx hvy hm
  go_enter Try.func66, Try.ntmps66
  go_wp2_with fail
  refine wp_region_qat [] 8 [Mkr.blk (fun g => .pointer (some ⟨g, 0, none⟩)) (.cells #[.int .i64 0, .int .i64 0] 38), Mkr.blk (fun g => .pointer (some ⟨g, 0, none⟩)) (.cells #[.int .i64 0, .int .i64 0] 38)] (by kernel_rfl) (by kernel_rfl) ?_
  intro hbc
  simp only [List.take_succ_cons, List.take_zero, List.drop_succ_cons, List.drop_zero]
  repeat (first
    | refine wpQ_pass rfl ?_
    | (refine wpQ_step rfl (fun K hK => ?_)
       go_simp
       first
         | (refine hK _ ?_; clear hK K)
         | (apply Exists.intro
            refine ⟨fun z => ?_, ?_⟩
            focus (first | (go_at_call 77; with_reducible exact M1.out _) | (go_at_call 77; with_reducible exact M2.out _))
            refine hK _ ?_
            clear hK K)))
  refine wpQ_nil ⟨?_, ?_⟩
  · refine ⟨fun z => ?_, fun z => ?_, rfl⟩
    · set_option maxRecDepth 100000 in refine makes_blk ?_
      go_simp
    · set_option maxRecDepth 100000 in refine makes_blk ?_
      go_simp
  intro u1a g1a hi1a hg1a hl1a n1a u1b g1b hi1b hg1b hl1b n1b w1 hb1 hF1
  clear hbc
  obtain ⟨hc1, hf1⟩ := bcell hb1
  obtain ⟨⟨_, hs1a, ⟨rfl, rfl, hF1a⟩⟩, hs1b, ⟨rfl, rfl, hF1b⟩⟩ := hF1
  have hB1 : Below w.heap.size w w1 := below_then (by first | (go_grown; done) | (repeat (first | (with_reducible assumption) | (with_reducible exact Below.refl _ _) | (with_reducible refine below_drewN' ?_ _) | (with_reducible refine Below.drew ?_) | ((with_reducible refine Below.alloc ?_ ?_ _); rotate_left; focus (first | (simp; done) | (simp; omega) | omega)) | ((with_reducible refine Below.setCell ?_ ?_ _); rotate_left; focus (first | (simp; done) | (simp; omega) | omega))))) (by first | (simp; done) | (simp; omega) | omega) hb1
  have hz1a : w.heap.size < w1.heap.size := (by have := hb1.size; first | omega | (simp at this; omega))
  have hz1b : w.heap.size + 3 < w1.heap.size := (by have := hb1.size; first | omega | (simp at this; omega))
  have ne1b1a : g1b ≠ g1a := by intro h; have := n1b (g1a, g1a + 1) (by simp); simp at this; omega
  have hcg1a := blk_cell hF1a
  have hfg1a := blk_frozen hF1a
  try simp only [World.size_alloc] at hg1a
  have hcg1b := blk_cell hF1b
  have hfg1b := blk_frozen hF1b
  try simp only [World.size_alloc] at hg1b
  clear n1a n1b
  try simp only [Act.put, List.setIfInBounds_toArray, List.set_cons_succ, List.set_cons_zero]
  go_upto_region 2 with fail
  have h1 : CP1 w 38 48 [ax, ay] [0, 0] [0, 0] [0, 0, 0, 0, 0, 0, 0, 0] g1a g1b w1 := by
    refine ⟨⟨by omega, by omega, fun h => ne1b1a h.symm, by omega, by omega⟩, hB1, ?_, hF1a, hF1b, ?_⟩
    · exact ((RowAt.made (w := w) (xs := [ax, ay]) rfl).below (B := w.heap.size + 1) ((((Below.refl _ _).alloc (by simp) _).alloc (by simp) _).alloc (by first | (simp; done) | (simp; omega)) _) (by omega)).below hb1 (by first | (simp; done) | (simp; omega))
    · have h := (RowAt.made (xs := [0, 0, 0, 0, 0, 0, 0, 0]) rfl).below hb1 (by simp)
      simpa only [World.size_alloc] using h
  refine gen_worldC (P := fun W' => Code.wp _ _ _ _ W') (Q := fun W' => CP1 w 38 48 [ax, ay] [ux, uy] [vx, vy] [0, 0, 0, 0, 0, 0, 0, 0] g1a g1b W') (by exact (((h1.setu 0 ux).setu 1 uy).setv 0 vx).setv 1 vy) ?_
  clear h1 hb1 hc1 hf1 hF1a hl1a hs1a hF1b hl1b hs1b hB1 hz1a hz1b hcg1a hfg1a hg1a hcg1b hfg1b hg1b M1 M2
  rintro W1 hp
  have frs0 : W1.cell? ⟨w.heap.size, 0, none⟩ = some (.int .i64 (ax)) := hp.rs.cell (k := 0) (by simp)
  have frs1 : W1.cell? ⟨w.heap.size, 1, none⟩ = some (.int .i64 (ay)) := hp.rs.cell (k := 1) (by simp)
  have fru0 : W1.cell? ⟨g1a, 0, none⟩ = some (.int .i64 (ux)) := hp.ru.cell (k := 0) (by simp)
  have fru1 : W1.cell? ⟨g1a, 1, none⟩ = some (.int .i64 (uy)) := hp.ru.cell (k := 1) (by simp)
  have frv0 : W1.cell? ⟨g1b, 0, none⟩ = some (.int .i64 (vx)) := hp.rv.cell (k := 0) (by simp)
  have frv1 : W1.cell? ⟨g1b, 1, none⟩ = some (.int .i64 (vy)) := hp.rv.cell (k := 1) (by simp)
  have hBW := hp.bl
  obtain ⟨z1, z2, z3, z4, z5⟩ := hp.sz
  have hzs : w.heap.size < W1.heap.size := by omega
  have HP := Lib.hid hp
  clear hp
  refine wp_region_qat [] 11 [Mkr.blk (fun g => .pointer (some ⟨g, 0, none⟩)) (.cells #[.int .i64 0, .int .i64 0, .int .i64 0, .int .i64 0, .int .i64 0, .int .i64 0, .int .i64 0, .int .i64 0] 48)] (by kernel_rfl) (by kernel_rfl) ?_
  intro hbc
  simp only [List.take_succ_cons, List.take_zero, List.drop_succ_cons, List.drop_zero]
  repeat (first
    | refine wpQ_pass rfl ?_
    | (refine wpQ_step rfl (fun K hK => ?_)
       go_simp
       first
         | (refine hK _ ?_; clear hK K)
         | (apply Exists.intro
            refine ⟨fun z => ?_, ?_⟩
            focus (first | (go_at_call 78; with_reducible exact M3.out _) | (go_at_call 81; with_reducible exact M4.out _) | (go_at_call 77; with_reducible exact M5.out _))
            refine hK _ ?_
            clear hK K)))
  refine wpQ_nil ⟨?_, ?_⟩
  · refine ⟨fun z => ?_, rfl⟩
    · set_option maxRecDepth 100000 in refine makes_blk ?_
      go_simp
  intro u2a g2a hi2a hg2a hl2a n2a w2 hb2 hF2
  clear hbc
  obtain ⟨hc2, hf2⟩ := bcell hb2
  obtain ⟨_, hs2a, ⟨rfl, rfl, hF2a⟩⟩ := hF2
  have hB2 : Below w.heap.size w w2 := below_then (by first | (go_grown; done) | (repeat (first | (with_reducible assumption) | (with_reducible exact Below.refl _ _) | (with_reducible refine below_drewN' ?_ _) | (with_reducible refine Below.drew ?_) | ((with_reducible refine Below.alloc ?_ ?_ _); rotate_left; focus (first | (simp; done) | (simp; omega) | omega)) | ((with_reducible refine Below.setCell ?_ ?_ _); rotate_left; focus (first | (simp; done) | (simp; omega) | omega))))) (by first | (simp; done) | (simp; omega) | omega) hb2
  have hz2a : w.heap.size < w2.heap.size := (by have := hb2.size; first | omega | (simp at this; omega))
  have hcg2a := blk_cell hF2a
  have hfg2a := blk_frozen hF2a
  try simp only [World.size_alloc] at hg2a
  clear n2a
  try simp only [Act.put, List.setIfInBounds_toArray, List.set_cons_succ, List.set_cons_zero]
  go_upto_region 3 with fail
  refine gen_worldC (P := fun W' => Code.wp _ _ _ _ W') (Q := fun W' => CP2 w 38 48 [ux, uy] [vx, vy] [0, 0, 0, 0, 0, 0, 0, 0] [Ax, Ay, 0, 0, 0, 0, 0, 0] g1a g1b g2a W') (by exact (((((((((CP2.of1 (q := [0, 0, 0, 0, 0, 0, 0, 0]) HP.out hb2 hF2a hg2a).setq 0 Ax).setq 1 Ay).setq 2 0).setq 3 0).setq 4 0).setq 5 0).setq 6 0).setq 7 0)) ?_
  clear HP hzs z1 z2 z3 z4 z5 hBW frs0 frs1 fru0 fru1 frv0 frv1
  clear hb2 hc2 hf2 hB2 hF2a hl2a hs2a hz2a hcg2a hfg2a hg2a
  rintro W2 hp
  have fru0 : W2.cell? ⟨g1a, 0, none⟩ = some (.int .i64 (ux)) := hp.ru.cell (k := 0) (by simp)
  have fru1 : W2.cell? ⟨g1a, 1, none⟩ = some (.int .i64 (uy)) := hp.ru.cell (k := 1) (by simp)
  have frv0 : W2.cell? ⟨g1b, 0, none⟩ = some (.int .i64 (vx)) := hp.rv.cell (k := 0) (by simp)
  have frv1 : W2.cell? ⟨g1b, 1, none⟩ = some (.int .i64 (vy)) := hp.rv.cell (k := 1) (by simp)
  have frq0 : W2.cell? ⟨g2a, 0, none⟩ = some (.int .i64 (Ax)) := hp.rq.cell (k := 0) (by simp)
  have frq1 : W2.cell? ⟨g2a, 1, none⟩ = some (.int .i64 (Ay)) := hp.rq.cell (k := 1) (by simp)
  have frq2 : W2.cell? ⟨g2a, 2, none⟩ = some (.int .i64 (0)) := hp.rq.cell (k := 2) (by simp)
  have frq3 : W2.cell? ⟨g2a, 3, none⟩ = some (.int .i64 (0)) := hp.rq.cell (k := 3) (by simp)
  have frq4 : W2.cell? ⟨g2a, 4, none⟩ = some (.int .i64 (0)) := hp.rq.cell (k := 4) (by simp)
  have frq5 : W2.cell? ⟨g2a, 5, none⟩ = some (.int .i64 (0)) := hp.rq.cell (k := 5) (by simp)
  have frq6 : W2.cell? ⟨g2a, 6, none⟩ = some (.int .i64 (0)) := hp.rq.cell (k := 6) (by simp)
  have frq7 : W2.cell? ⟨g2a, 7, none⟩ = some (.int .i64 (0)) := hp.rq.cell (k := 7) (by simp)
  have ffq : ∀ j, W2.frozen? ⟨g2a, j, none⟩ = false := hp.rq.free
  have hBW := hp.bl
  obtain ⟨z1, z2, z3, z4, z5, z6, z7, z8, z9⟩ := hp.sz
  have hzs : w.heap.size < W2.heap.size := by omega
  have hzr : w.heap.size + 1 + 1 + 1 < W2.heap.size := by omega
  have HP := Lib.hid hp
  clear hp
  refine wp_region_qat [] 9 [] (by kernel_rfl) (by kernel_rfl) ?_
  intro hbc
  simp only [List.take_succ_cons, List.take_zero, List.drop_succ_cons, List.drop_zero]
  repeat (first
    | refine wpQ_pass rfl ?_
    | (refine wpQ_step rfl (fun K hK => ?_)
       go_simp
       first
         | (refine hK _ ?_; clear hK K)
         | (apply Exists.intro
            refine ⟨fun z => ?_, ?_⟩
            focus (first | (go_at_call 81; with_reducible exact M6.out _) | (go_at_call 78; with_reducible exact M7.out _))
            refine hK _ ?_
            clear hK K)))
  refine wpQ_nil ⟨?_, ?_⟩
  · exact rfl
  intro  w3 hb3 hF3
  clear hbc
  obtain ⟨hc3, hf3⟩ := bcell hb3
  have hB3 : Below w.heap.size w w3 := below_then (by first | (go_grown; done) | (repeat (first | (with_reducible assumption) | (with_reducible exact Below.refl _ _) | (with_reducible refine below_drewN' ?_ _) | (with_reducible refine Below.drew ?_) | ((with_reducible refine Below.alloc ?_ ?_ _); rotate_left; focus (first | (simp; done) | (simp; omega) | omega)) | ((with_reducible refine Below.setCell ?_ ?_ _); rotate_left; focus (first | (simp; done) | (simp; omega) | omega))))) (by first | (simp; done) | (simp; omega) | omega) hb3
  have hz3a : w.heap.size < w3.heap.size := (by have := hb3.size; first | omega | (simp at this; omega))
  clear hF3
  try simp only [Act.put, List.setIfInBounds_toArray, List.set_cons_succ, List.set_cons_zero]
  have ffq2 : ∀ j, w3.frozen? ⟨g2a, j, none⟩ = false := fun j => (hf3 _ _ (by omega)).trans (ffq j)
  have fq20 : w3.cell? ⟨g2a, 0, none⟩ = some (.int .i64 (Ax)) := (hc3 _ _ (by omega)).trans frq0
  have fq21 : w3.cell? ⟨g2a, 1, none⟩ = some (.int .i64 (Ay)) := (hc3 _ _ (by omega)).trans frq1
  have fq22 : w3.cell? ⟨g2a, 2, none⟩ = some (.int .i64 (0)) := (hc3 _ _ (by omega)).trans frq2
  have fq23 : w3.cell? ⟨g2a, 3, none⟩ = some (.int .i64 (0)) := (hc3 _ _ (by omega)).trans frq3
  have fq24 : w3.cell? ⟨g2a, 4, none⟩ = some (.int .i64 (0)) := (hc3 _ _ (by omega)).trans frq4
  have fq25 : w3.cell? ⟨g2a, 5, none⟩ = some (.int .i64 (0)) := (hc3 _ _ (by omega)).trans frq5
  have fq26 : w3.cell? ⟨g2a, 6, none⟩ = some (.int .i64 (0)) := (hc3 _ _ (by omega)).trans frq6
  have fq27 : w3.cell? ⟨g2a, 7, none⟩ = some (.int .i64 (0)) := (hc3 _ _ (by omega)).trans frq7
  go_upto_region 4 with fail
  refine gen_worldC (P := fun W' => Code.wp _ _ _ _ W') (Q := fun W' => CP2 w 38 48 [ux, uy] [vx, vy] [0, 0, 0, 0, 0, 0, 0, 0] [Ax, Ay, Bx, By, 0, 0, 0, 0] g1a g1b g2a W') (by exact (((HP.out.below hb3).setq 2 (Bx)).setq 3 (By))) ?_
  clear ffq ffq2 fq20 fq21 fq22 fq23 fq24 fq25 fq26 fq27
  clear HP hzs z1 z2 z3 z4 z5 hBW hzr z6 z7 z8 z9 fru0 fru1 frv0 frv1 frq0 frq1 frq2 frq3 frq4 frq5 frq6 frq7
  clear hb3 hc3 hf3 hB3 hz3a
  rintro W3 hp
  have fru0 : W3.cell? ⟨g1a, 0, none⟩ = some (.int .i64 (ux)) := hp.ru.cell (k := 0) (by simp)
  have fru1 : W3.cell? ⟨g1a, 1, none⟩ = some (.int .i64 (uy)) := hp.ru.cell (k := 1) (by simp)
  have frv0 : W3.cell? ⟨g1b, 0, none⟩ = some (.int .i64 (vx)) := hp.rv.cell (k := 0) (by simp)
  have frv1 : W3.cell? ⟨g1b, 1, none⟩ = some (.int .i64 (vy)) := hp.rv.cell (k := 1) (by simp)
  have frq0 : W3.cell? ⟨g2a, 0, none⟩ = some (.int .i64 (Ax)) := hp.rq.cell (k := 0) (by simp)
  have frq1 : W3.cell? ⟨g2a, 1, none⟩ = some (.int .i64 (Ay)) := hp.rq.cell (k := 1) (by simp)
  have frq2 : W3.cell? ⟨g2a, 2, none⟩ = some (.int .i64 (Bx)) := hp.rq.cell (k := 2) (by simp)
  have frq3 : W3.cell? ⟨g2a, 3, none⟩ = some (.int .i64 (By)) := hp.rq.cell (k := 3) (by simp)
  have frq4 : W3.cell? ⟨g2a, 4, none⟩ = some (.int .i64 (0)) := hp.rq.cell (k := 4) (by simp)
  have frq5 : W3.cell? ⟨g2a, 5, none⟩ = some (.int .i64 (0)) := hp.rq.cell (k := 5) (by simp)
  have frq6 : W3.cell? ⟨g2a, 6, none⟩ = some (.int .i64 (0)) := hp.rq.cell (k := 6) (by simp)
  have frq7 : W3.cell? ⟨g2a, 7, none⟩ = some (.int .i64 (0)) := hp.rq.cell (k := 7) (by simp)
  have ffq : ∀ j, W3.frozen? ⟨g2a, j, none⟩ = false := hp.rq.free
  have hBW := hp.bl
  obtain ⟨z1, z2, z3, z4, z5, z6, z7, z8, z9⟩ := hp.sz
  have hzs : w.heap.size < W3.heap.size := by omega
  have hzr : w.heap.size + 1 + 1 + 1 < W3.heap.size := by omega
  have HP := Lib.hid hp
  clear hp
  refine wp_region_qat [] 9 [] (by kernel_rfl) (by kernel_rfl) ?_
  intro hbc
  simp only [List.take_succ_cons, List.take_zero, List.drop_succ_cons, List.drop_zero]
  repeat (first
    | refine wpQ_pass rfl ?_
    | (refine wpQ_step rfl (fun K hK => ?_)
       go_simp
       first
         | (refine hK _ ?_; clear hK K)
         | (apply Exists.intro
            refine ⟨fun z => ?_, ?_⟩
            focus (first | (go_at_call 81; with_reducible exact M8.out _) | (go_at_call 78; with_reducible exact M9.out _))
            refine hK _ ?_
            clear hK K)))
  refine wpQ_nil ⟨?_, ?_⟩
  · exact rfl
  intro  w4 hb4 hF4
  clear hbc
  obtain ⟨hc4, hf4⟩ := bcell hb4
  have hB4 : Below w.heap.size w w4 := below_then (by first | (go_grown; done) | (repeat (first | (with_reducible assumption) | (with_reducible exact Below.refl _ _) | (with_reducible refine below_drewN' ?_ _) | (with_reducible refine Below.drew ?_) | ((with_reducible refine Below.alloc ?_ ?_ _); rotate_left; focus (first | (simp; done) | (simp; omega) | omega)) | ((with_reducible refine Below.setCell ?_ ?_ _); rotate_left; focus (first | (simp; done) | (simp; omega) | omega))))) (by first | (simp; done) | (simp; omega) | omega) hb4
  have hz4a : w.heap.size < w4.heap.size := (by have := hb4.size; first | omega | (simp at this; omega))
  clear hF4
  try simp only [Act.put, List.setIfInBounds_toArray, List.set_cons_succ, List.set_cons_zero]
  have ffq3 : ∀ j, w4.frozen? ⟨g2a, j, none⟩ = false := fun j => (hf4 _ _ (by omega)).trans (ffq j)
  have fq30 : w4.cell? ⟨g2a, 0, none⟩ = some (.int .i64 (Ax)) := (hc4 _ _ (by omega)).trans frq0
  have fq31 : w4.cell? ⟨g2a, 1, none⟩ = some (.int .i64 (Ay)) := (hc4 _ _ (by omega)).trans frq1
  have fq32 : w4.cell? ⟨g2a, 2, none⟩ = some (.int .i64 (Bx)) := (hc4 _ _ (by omega)).trans frq2
  have fq33 : w4.cell? ⟨g2a, 3, none⟩ = some (.int .i64 (By)) := (hc4 _ _ (by omega)).trans frq3
  have fq34 : w4.cell? ⟨g2a, 4, none⟩ = some (.int .i64 (0)) := (hc4 _ _ (by omega)).trans frq4
  have fq35 : w4.cell? ⟨g2a, 5, none⟩ = some (.int .i64 (0)) := (hc4 _ _ (by omega)).trans frq5
  have fq36 : w4.cell? ⟨g2a, 6, none⟩ = some (.int .i64 (0)) := (hc4 _ _ (by omega)).trans frq6
  have fq37 : w4.cell? ⟨g2a, 7, none⟩ = some (.int .i64 (0)) := (hc4 _ _ (by omega)).trans frq7
  go_upto_region 5 with fail
  refine gen_worldC (P := fun W' => Code.wp _ _ _ _ W') (Q := fun W' => CP2 w 38 48 [ux, uy] [vx, vy] [0, 0, 0, 0, 0, 0, 0, 0] [Ax, Ay, Bx, By, 0, 0, Dx, Dy] g1a g1b g2a W') (by exact (((HP.out.below hb4).setq 6 (Dx)).setq 7 (Dy))) ?_
  clear ffq ffq3 fq30 fq31 fq32 fq33 fq34 fq35 fq36 fq37
  clear HP hzs z1 z2 z3 z4 z5 hBW hzr z6 z7 z8 z9 fru0 fru1 frv0 frv1 frq0 frq1 frq2 frq3 frq4 frq5 frq6 frq7
  clear hb4 hc4 hf4 hB4 hz4a
  rintro W4 hp
  have fru0 : W4.cell? ⟨g1a, 0, none⟩ = some (.int .i64 (ux)) := hp.ru.cell (k := 0) (by simp)
  have fru1 : W4.cell? ⟨g1a, 1, none⟩ = some (.int .i64 (uy)) := hp.ru.cell (k := 1) (by simp)
  have frv0 : W4.cell? ⟨g1b, 0, none⟩ = some (.int .i64 (vx)) := hp.rv.cell (k := 0) (by simp)
  have frv1 : W4.cell? ⟨g1b, 1, none⟩ = some (.int .i64 (vy)) := hp.rv.cell (k := 1) (by simp)
  have frq0 : W4.cell? ⟨g2a, 0, none⟩ = some (.int .i64 (Ax)) := hp.rq.cell (k := 0) (by simp)
  have frq1 : W4.cell? ⟨g2a, 1, none⟩ = some (.int .i64 (Ay)) := hp.rq.cell (k := 1) (by simp)
  have frq2 : W4.cell? ⟨g2a, 2, none⟩ = some (.int .i64 (Bx)) := hp.rq.cell (k := 2) (by simp)
  have frq3 : W4.cell? ⟨g2a, 3, none⟩ = some (.int .i64 (By)) := hp.rq.cell (k := 3) (by simp)
  have frq4 : W4.cell? ⟨g2a, 4, none⟩ = some (.int .i64 (0)) := hp.rq.cell (k := 4) (by simp)
  have frq5 : W4.cell? ⟨g2a, 5, none⟩ = some (.int .i64 (0)) := hp.rq.cell (k := 5) (by simp)
  have frq6 : W4.cell? ⟨g2a, 6, none⟩ = some (.int .i64 (Dx)) := hp.rq.cell (k := 6) (by simp)
  have frq7 : W4.cell? ⟨g2a, 7, none⟩ = some (.int .i64 (Dy)) := hp.rq.cell (k := 7) (by simp)
  have ffq : ∀ j, W4.frozen? ⟨g2a, j, none⟩ = false := hp.rq.free
  have hBW := hp.bl
  obtain ⟨z1, z2, z3, z4, z5, z6, z7, z8, z9⟩ := hp.sz
  have hzs : w.heap.size < W4.heap.size := by omega
  have hzr : w.heap.size + 1 + 1 + 1 < W4.heap.size := by omega
  have HP := Lib.hid hp
  clear hp
  refine wp_region_qat [] 9 [] (by kernel_rfl) (by kernel_rfl) ?_
  intro hbc
  simp only [List.take_succ_cons, List.take_zero, List.drop_succ_cons, List.drop_zero]
  repeat (first
    | refine wpQ_pass rfl ?_
    | (refine wpQ_step rfl (fun K hK => ?_)
       go_simp
       first
         | (refine hK _ ?_; clear hK K)
         | (apply Exists.intro
            refine ⟨fun z => ?_, ?_⟩
            focus (first | (go_at_call 78; with_reducible exact M10.out _) | (go_at_call 77; with_reducible exact M11.out _))
            refine hK _ ?_
            clear hK K)))
  refine wpQ_nil ⟨?_, ?_⟩
  · exact rfl
  intro  w5 hb5 hF5
  clear hbc
  obtain ⟨hc5, hf5⟩ := bcell hb5
  have hB5 : Below w.heap.size w w5 := below_then (by first | (go_grown; done) | (repeat (first | (with_reducible assumption) | (with_reducible exact Below.refl _ _) | (with_reducible refine below_drewN' ?_ _) | (with_reducible refine Below.drew ?_) | ((with_reducible refine Below.alloc ?_ ?_ _); rotate_left; focus (first | (simp; done) | (simp; omega) | omega)) | ((with_reducible refine Below.setCell ?_ ?_ _); rotate_left; focus (first | (simp; done) | (simp; omega) | omega))))) (by first | (simp; done) | (simp; omega) | omega) hb5
  have hz5a : w.heap.size < w5.heap.size := (by have := hb5.size; first | omega | (simp at this; omega))
  clear hF5
  try simp only [Act.put, List.setIfInBounds_toArray, List.set_cons_succ, List.set_cons_zero]
  have ffq4 : ∀ j, w5.frozen? ⟨g2a, j, none⟩ = false := fun j => (hf5 _ _ (by omega)).trans (ffq j)
  have fq40 : w5.cell? ⟨g2a, 0, none⟩ = some (.int .i64 (Ax)) := (hc5 _ _ (by omega)).trans frq0
  have fq41 : w5.cell? ⟨g2a, 1, none⟩ = some (.int .i64 (Ay)) := (hc5 _ _ (by omega)).trans frq1
  have fq42 : w5.cell? ⟨g2a, 2, none⟩ = some (.int .i64 (Bx)) := (hc5 _ _ (by omega)).trans frq2
  have fq43 : w5.cell? ⟨g2a, 3, none⟩ = some (.int .i64 (By)) := (hc5 _ _ (by omega)).trans frq3
  have fq44 : w5.cell? ⟨g2a, 4, none⟩ = some (.int .i64 (0)) := (hc5 _ _ (by omega)).trans frq4
  have fq45 : w5.cell? ⟨g2a, 5, none⟩ = some (.int .i64 (0)) := (hc5 _ _ (by omega)).trans frq5
  have fq46 : w5.cell? ⟨g2a, 6, none⟩ = some (.int .i64 (Dx)) := (hc5 _ _ (by omega)).trans frq6
  have fq47 : w5.cell? ⟨g2a, 7, none⟩ = some (.int .i64 (Dy)) := (hc5 _ _ (by omega)).trans frq7
  go_upto_region 6 with fail
  refine gen_worldC (P := fun W' => Code.wp _ _ _ _ W') (Q := fun W' => CP2 w 38 48 [ux, uy] [vx, vy] [0, 0, 0, 0, 0, 0, 0, 0] [Ax, Ay, Bx, By, Bx + Dx - Ax, By + Dy - Ay, Dx, Dy] g1a g1b g2a W') (by exact (((HP.out.below hb5).setq 4 (Bx + Dx - Ax)).setq 5 (By + Dy - Ay))) ?_
  clear ffq ffq4 fq40 fq41 fq42 fq43 fq44 fq45 fq46 fq47
  clear HP hzs z1 z2 z3 z4 z5 hBW hzr z6 z7 z8 z9 fru0 fru1 frv0 frv1 frq0 frq1 frq2 frq3 frq4 frq5 frq6 frq7
  clear hb5 hc5 hf5 hB5 hz5a
  rintro W5 hp
  have frq0 : W5.cell? ⟨g2a, 0, none⟩ = some (.int .i64 (Ax)) := hp.rq.cell (k := 0) (by simp)
  have frq1 : W5.cell? ⟨g2a, 1, none⟩ = some (.int .i64 (Ay)) := hp.rq.cell (k := 1) (by simp)
  have frq2 : W5.cell? ⟨g2a, 2, none⟩ = some (.int .i64 (Bx)) := hp.rq.cell (k := 2) (by simp)
  have frq3 : W5.cell? ⟨g2a, 3, none⟩ = some (.int .i64 (By)) := hp.rq.cell (k := 3) (by simp)
  have frq4 : W5.cell? ⟨g2a, 4, none⟩ = some (.int .i64 (Bx + Dx - Ax)) := hp.rq.cell (k := 4) (by simp)
  have frq5 : W5.cell? ⟨g2a, 5, none⟩ = some (.int .i64 (By + Dy - Ay)) := hp.rq.cell (k := 5) (by simp)
  have frq6 : W5.cell? ⟨g2a, 6, none⟩ = some (.int .i64 (Dx)) := hp.rq.cell (k := 6) (by simp)
  have frq7 : W5.cell? ⟨g2a, 7, none⟩ = some (.int .i64 (Dy)) := hp.rq.cell (k := 7) (by simp)
  have frr0 : W5.cell? ⟨w.heap.size + 1 + 1 + 1, 0, none⟩ = some (.int .i64 (0)) := hp.rr.cell (k := 0) (by simp)
  have frr1 : W5.cell? ⟨w.heap.size + 1 + 1 + 1, 1, none⟩ = some (.int .i64 (0)) := hp.rr.cell (k := 1) (by simp)
  have frr2 : W5.cell? ⟨w.heap.size + 1 + 1 + 1, 2, none⟩ = some (.int .i64 (0)) := hp.rr.cell (k := 2) (by simp)
  have frr3 : W5.cell? ⟨w.heap.size + 1 + 1 + 1, 3, none⟩ = some (.int .i64 (0)) := hp.rr.cell (k := 3) (by simp)
  have frr4 : W5.cell? ⟨w.heap.size + 1 + 1 + 1, 4, none⟩ = some (.int .i64 (0)) := hp.rr.cell (k := 4) (by simp)
  have frr5 : W5.cell? ⟨w.heap.size + 1 + 1 + 1, 5, none⟩ = some (.int .i64 (0)) := hp.rr.cell (k := 5) (by simp)
  have frr6 : W5.cell? ⟨w.heap.size + 1 + 1 + 1, 6, none⟩ = some (.int .i64 (0)) := hp.rr.cell (k := 6) (by simp)
  have frr7 : W5.cell? ⟨w.heap.size + 1 + 1 + 1, 7, none⟩ = some (.int .i64 (0)) := hp.rr.cell (k := 7) (by simp)
  have ffr : ∀ j, W5.frozen? ⟨w.heap.size + 1 + 1 + 1, j, none⟩ = false := hp.rr.free
  have ffq : ∀ j, W5.frozen? ⟨g2a, j, none⟩ = false := hp.rq.free
  have hBW := hp.bl
  obtain ⟨z1, z2, z3, z4, z5, z6, z7, z8, z9⟩ := hp.sz
  have hzs : w.heap.size < W5.heap.size := by omega
  have hzr : w.heap.size + 1 + 1 + 1 < W5.heap.size := by omega
  have HP := Lib.hid hp
  clear hp
  go_wp2_with fail
  (try simp only [Exit.inBlock, Exit.then]); refine bodyPost_ret (by simp [results, Try.results66, go_sem, frr0, frr1, frr2, frr3, frr4, frr5, frr6, frr7]; try rfl) rfl ?_
  exact ⟨rfl, by (repeat (first | (with_reducible assumption) | (with_reducible exact Below.refl _ _) | (with_reducible refine below_drewN' ?_ _) | (with_reducible refine Below.drew ?_) | ((with_reducible refine Below.alloc ?_ ?_ _); rotate_left; focus (first | (simp; done) | (simp; omega) | omega)) | ((with_reducible refine Below.setCell ?_ ?_ _); rotate_left; focus (first | (simp; done) | (simp; omega) | omega))))⟩
end Go.Proofs.Ytnhhbpdjapccpaa
