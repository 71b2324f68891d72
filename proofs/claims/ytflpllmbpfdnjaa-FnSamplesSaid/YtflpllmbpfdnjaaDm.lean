/-
  What the laws of chapter 25 draw: maps. Printed by gen/c25d.py.
-/
import Derived.Test.YtflpllmbpfdnjaaDq
import Derived.Test.YtflpllmbpfdnjaaC25V
namespace Go.Proofs.Ytflpllmbpfdnjaa
set_option linter.unusedSimpArgs false
open Go.RowKit

/-- One of two numbers. -/
def pick2 (R : Nat) (x y : Int) : Int := if R = 0 then x else y
theorem two_at {R : Nat} (h : R < 2) : ∀ x y : Int, (#[Value.int .i64 x, Value.int .i64 y] : Array Value)[R]? = some (.int .i64 (pick2 R x y)) := by
  intro x y
  rcases (show R = 0 ∨ R = 1 by omega) with rfl | rfl <;> rfl
theorem two_atL {R : Nat} (hR : R < 2) : ∀ (x y : Int) (h : R < [Value.int .i64 x, Value.int .i64 y].length), [Value.int .i64 x, Value.int .i64 y][R]'h = .int .i64 (pick2 R x y) := by
  intro x y h
  rcases (show R = 0 ∨ R = 1 by omega) with rfl | rfl <;> rfl
theorem blk2R {w : World} {b t R : Nat} {x y : Int} (h : w.heap[b]? = some (.cells #[.int .i64 x, .int .i64 y] t (0, 0))) (hR : R < 2) : w.cell? ⟨b, R, none⟩ = some (.int .i64 (pick2 R x y)) := by
  have := blk_cell h R
  rw [this]; exact two_at hR x y
theorem gen_world {P Q : World → Prop} {W : World} (h : Q W) (k : ∀ W', Q W' → P W') : P W := k W h
theorem QX.alloc {s : SP} {w0 w : World} {g0 g1 : Nat} {o0 : Obj} {t1 n : Nat} (h : QX s w0 g0 g1 o0 t1 n w) (o : Obj) : QX s w0 g0 g1 o0 t1 n (w.alloc o) := by obtain ⟨xs, hn, h⟩ := h; exact ⟨xs, hn, h.alloc o⟩
theorem QX.below {s : SP} {w0 w w' : World} {g0 g1 : Nat} {o0 : Obj} {t1 n : Nat} (h : QX s w0 g0 g1 o0 t1 n w) (hb : Below w.heap.size w w') : QX s w0 g0 g1 o0 t1 n w' := by obtain ⟨xs, hn, h⟩ := h; exact ⟨xs, hn, h.below hb⟩
set_option maxRecDepth 20000 in
set_option maxHeartbeats 40000000 in
theorem l25Draw_any (b : Nat) (A : Option Addr) (n c : Nat) (bs : List Int) (B : Nat) (w : World) (hI : (srcP 124 b A n c bs B).I w) :
    Calls Try.prog 123 #[.pointer (some ⟨b, 0, none⟩)] w fun e w' =>
      ∃ u, e = .returned u ∧ (∃ x0 x1 x2 x3 x4 x5 x6 x7 x8 : Int, u = .agg #[.int .i64 x0, .int .i64 x1, .int .i64 x2, .int .i64 x3, .int .i64 x4, .int .i64 x5, .int .i64 x6, .int .i64 x7, .int .i64 x8]) ∧ BX (srcP 124 b A n c bs B) w.heap.size w w' := by
  have hbw := srcP_lt hI
  have HQ0 : Hid (QP (srcP 124 b A n c bs B) w w.heap.size (w.heap.size + 1) (.cells #[.int .i64 0, .int .i64 0, .int .i64 0, .int .i64 0, .int .i64 0, .int .i64 0, .int .i64 0, .int .i64 0, .int .i64 0] 34 (0, 0)) 34 [1, 0, 0, 0, 1, 0, 0, 0, 1] ((w.alloc (.cells #[.int .i64 0, .int .i64 0, .int .i64 0, .int .i64 0, .int .i64 0, .int .i64 0, .int .i64 0, .int .i64 0, .int .i64 0] 34)).alloc (.cells #[.int .i64 1, .int .i64 0, .int .i64 0, .int .i64 0, .int .i64 1, .int .i64 0, .int .i64 0, .int .i64 0, .int .i64 1] 34))) :=
    Lib.hid ⟨⟨hbw, Nat.le_refl _, Nat.lt_succ_self _, by simp⟩, ((BX.refl _ _ _).alloc (Nat.le_refl _) _).alloc (by simp) _, (((BX.refl _ _ _).alloc (Nat.le_refl _) _).alloc (by simp) _ : BX (srcP 124 b A n c bs B) w.heap.size w _).inv hI, blk_alloc (heap_alloc_new _ _) (by simp), heap_alloc_at (by simp)⟩
  have HX0 := Lib.hid (HQ0.out.x (n := 9) rfl)
  clear HQ0 hI
  go_enter Try.func123, Try.ntmps123
  go_wp2_with fail
  generalize (w.alloc (.cells #[.int .i64 0, .int .i64 0, .int .i64 0, .int .i64 0, .int .i64 0, .int .i64 0, .int .i64 0, .int .i64 0, .int .i64 0] 34)).alloc (.cells #[.int .i64 1, .int .i64 0, .int .i64 0, .int .i64 0, .int .i64 1, .int .i64 0, .int .i64 0, .int .i64 0, .int .i64 1] 34) = wa at *
  obtain ⟨g1, hg1⟩ : ∃ g1, w.heap.size + 1 = g1 := ⟨_, rfl⟩
  rw [hg1] at HX0 ⊢
  go_at_call 130
  with_reducible refine (l24DrawQuad_any b A n c bs B _ ?_).mono ?_
  (focus (exact HX0.out.inv))
  rintro e1 w1 ⟨u1, rfl, ⟨q0, q1, q2, q3, q4, q5, q6, q7, rfl⟩, hb1⟩
  have HX1 := Lib.hid (HX0.out.step hb1)
  clear hb1 HX0
  go_wp2_with fail
  go_at_call 125
  with_reducible refine (sIsQuad_any q0 q1 q2 q3 q4 q5 q6 q7 _).mono ?_
  rintro e2 w2 ⟨rfl, hb2⟩
  have HX2 := Lib.hid ((HX1.out.alloc _).below hb2)
  have hq2 := blk_below (heap_alloc_new w1 (.cells #[.int .i64 q0, .int .i64 q1, .int .i64 q2, .int .i64 q3, .int .i64 q4, .int .i64 q5, .int .i64 q6, .int .i64 q7] 63)) hb2 (by simp)
  have HQ2 := Lib.hid hq2
  clear hq2 hb2 HX1
  cases hqq : quadB q0 q1 q2 q3 q4 q5 q6 q7
  · clear hqq HQ2
    go_wp2_with fail
    go_at_call 79; with_reducible refine (draw_any b A n c bs B 24 _ ?_ (by omega)).mono ?_; (focus (first | exact HX2.out.inv | exact HX2.out.drew.inv | exact (HX2.out.alloc _).drew.inv | exact (HX2.out.alloc _).inv)); rintro e10 w10 ⟨u10, rfl, ⟨r10, rfl, hr10a, hr10b⟩, hb10⟩; (first | have HP10 := Lib.hid (HX2.out.step hb10) | have HP10 := Lib.hid (HX2.out.drew.step hb10) | have HP10 := Lib.hid ((HX2.out.alloc _).step hb10) | have HP10 := Lib.hid ((HX2.out.alloc _).drew.step hb10))
    clear hb10
    rcases (show r10 = 0 ∨ r10 = 1 ∨ r10 = 2 ∨ r10 = 3 ∨ (¬ r10 = 0 ∧ ¬ r10 = 1 ∧ ¬ r10 = 2 ∧ ¬ r10 = 3) by omega) with rfl | rfl | rfl | rfl | ⟨n0, n1, n2, n3⟩
    · go_wp2_with fail
      have hwb : b < w10.heap.size := SP.lt _ HP10.out.inv
      have hwb1 : b < w10.heap.size + 1 := by omega
      have hgw : g1 < w10.heap.size := by obtain ⟨xs, -, h⟩ := HP10.out; exact h.sz.2.2.2
      have hbg : b < g1 := by obtain ⟨xs, -, h⟩ := HP10.out; have := h.sz; simp only [srcP_b] at this; omega
      have fb := HP10.out.free
      have fd := HP10.out.ci (k := 8) (by decide)
      have fe := HP10.out.ci (k := 8) (by decide)
      go_region_with (go_at_call 79; with_reducible refine (draw_any b A n c bs B 2 _ ?_ (by omega)).mono ?_; (focus (first | exact HP10.out.inv | exact HP10.out.drew.inv | exact (HP10.out.alloc _).drew.inv | exact (HP10.out.alloc _).inv)); rintro e11 w11 ⟨u11, rfl, ⟨r11, rfl, hr11a, hr11b⟩, hb11⟩; (first | have HP11 := Lib.hid (HP10.out.step hb11) | have HP11 := Lib.hid (HP10.out.drew.step hb11) | have HP11 := Lib.hid ((HP10.out.alloc _).step hb11) | have HP11 := Lib.hid ((HP10.out.alloc _).drew.step hb11));  have hcz := bxcell hb11; have hfz := bxfrozen hb11; simp only [srcP_b] at hcz hfz; have hsz := hb11.size; (first | simp only [World.size_alloc] at hsz | skip); have hg11 : g1 < w11.heap.size := (by first | omega | (simp at hsz; omega) | (have hsq : w10.heap.size ≤ w11.heap.size := hsz; omega)); have fc := HP11.out.ci (k := 8) (by decide); have fg := HP11.out.ci (k := 8) (by decide); have ff := HP11.out.free; obtain ⟨R, hRr⟩ := Int.eq_ofNat_of_zero_le hr11a; subst hRr; have hR2 : R < 2 := (by omega); have h2 := two_at hR2; have h3 := two_atL hR2; (first | have hcp := blk2R ((hb11.block _ (by simp) (by simp; omega)).trans (heap_alloc_new _ _)) hR2 | skip))
      all_goals
        go_upto_region 14 with fail
        refine gen_world (P := fun W' => Code.wp _ _ _ _ W') (Q := fun W' => QX (srcP 124 b A n c bs B) w w.heap.size g1 (.cells #[.int .i64 0, .int .i64 0, .int .i64 0, .int .i64 0, .int .i64 0, .int .i64 0, .int .i64 0, .int .i64 0, .int .i64 0] 34 (0, 0)) 34 9 W') ?_ ?_
        · first | exact HP11.out.set 8 _ | exact (HP11.out.alloc _).set 8 _ | exact (HP11.out.set 8 _).alloc _
        · intro wz HSz
          go_upto_region 14 with fail
          obtain ⟨x0, x1, x2, x3, x4, x5, x6, x7, x8, hqz⟩ := HSz.nine
          have HPz := Lib.hid hqz
          clear hqz
          obtain ⟨d0, d1, d2, d3, d4, d5, d6, d7, d8, -⟩ := blk9 (show wz.heap[g1]? = some (.cells #[.int .i64 x0, .int .i64 x1, .int .i64 x2, .int .i64 x3, .int .i64 x4, .int .i64 x5, .int .i64 x6, .int .i64 x7, .int .i64 x8] 34 (0, 0)) from HPz.out.k1)
          obtain ⟨z0, z1, z2, z3, z4, z5, z6, z7, z8, zf⟩ := blk9 HPz.out.k0
          go_wp2_with fail
          obtain ⟨s0, s1, s2, s3, s4, s5, s6, s7, s8, -⟩ := blk9 (res9 HPz.out.k0 (.int .i64 x0) (.int .i64 x1) (.int .i64 x2) (.int .i64 x3) (.int .i64 x4) (.int .i64 x5) (.int .i64 x6) (.int .i64 x7) (.int .i64 x8))
          (try simp only [Exit.inBlock, Exit.then]); refine bodyPost_ret (by simp [results, Try.results123, go_sem, s0, s1, s2, s3, s4, s5, s6, s7, s8]; try rfl) rfl ?_
          exact ⟨_, rfl, ⟨_, _, _, _, _, _, _, _, _, rfl⟩, by repeat (first | with_reducible exact HPz.out.bx | with_reducible refine bxset ?_ hbw (Nat.le_refl _))⟩
    · have hwb : b < w10.heap.size := SP.lt _ HP10.out.inv
      have hwb1 : b < w10.heap.size + 1 := by omega
      have hgw : g1 < w10.heap.size := by obtain ⟨xs, -, h⟩ := HP10.out; exact h.sz.2.2.2
      have hbg : b < g1 := by obtain ⟨xs, -, h⟩ := HP10.out; have := h.sz; simp only [srcP_b] at this; omega
      have fb := HP10.out.free
      have fd := HP10.out.ci (k := 8) (by decide)
      have fe := HP10.out.ci (k := 0) (by decide)
      go_wp2_with fail
      go_at_call 79; with_reducible refine (draw_any b A n c bs B 3 _ ?_ (by omega)).mono ?_; (focus (first | exact HP10.out.inv | exact HP10.out.drew.inv | exact (HP10.out.alloc _).drew.inv | exact (HP10.out.alloc _).inv)); rintro e11 w11 ⟨u11, rfl, ⟨r11, rfl, hr11a, hr11b⟩, hb11⟩; (first | have HP11 := Lib.hid (HP10.out.step hb11) | have HP11 := Lib.hid (HP10.out.drew.step hb11) | have HP11 := Lib.hid ((HP10.out.alloc _).step hb11) | have HP11 := Lib.hid ((HP10.out.alloc _).drew.step hb11))
      have hcz := bxcell hb11
      have hfz := bxfrozen hb11
      simp only [srcP_b] at hcz hfz
      have fg := HP11.out.ci (k := 0) (by decide)
      have ff := HP11.out.free
      rcases (show r11 = 0 ∨ r11 = 1 ∨ r11 = 2 by omega) with rfl | rfl | rfl
      all_goals
        go_upto_region 14 with fail
        refine gen_world (P := fun W' => Code.wp _ _ _ _ W') (Q := fun W' => QX (srcP 124 b A n c bs B) w w.heap.size g1 (.cells #[.int .i64 0, .int .i64 0, .int .i64 0, .int .i64 0, .int .i64 0, .int .i64 0, .int .i64 0, .int .i64 0, .int .i64 0] 34 (0, 0)) 34 9 W') ?_ ?_
        · first | exact HP11.out.set 0 _
        · intro wz HSz
          go_upto_region 14 with fail
          obtain ⟨x0, x1, x2, x3, x4, x5, x6, x7, x8, hqz⟩ := HSz.nine
          have HPz := Lib.hid hqz
          clear hqz
          obtain ⟨d0, d1, d2, d3, d4, d5, d6, d7, d8, -⟩ := blk9 (show wz.heap[g1]? = some (.cells #[.int .i64 x0, .int .i64 x1, .int .i64 x2, .int .i64 x3, .int .i64 x4, .int .i64 x5, .int .i64 x6, .int .i64 x7, .int .i64 x8] 34 (0, 0)) from HPz.out.k1)
          obtain ⟨z0, z1, z2, z3, z4, z5, z6, z7, z8, zf⟩ := blk9 HPz.out.k0
          go_wp2_with fail
          obtain ⟨s0, s1, s2, s3, s4, s5, s6, s7, s8, -⟩ := blk9 (res9 HPz.out.k0 (.int .i64 x0) (.int .i64 x1) (.int .i64 x2) (.int .i64 x3) (.int .i64 x4) (.int .i64 x5) (.int .i64 x6) (.int .i64 x7) (.int .i64 x8))
          (try simp only [Exit.inBlock, Exit.then]); refine bodyPost_ret (by simp [results, Try.results123, go_sem, s0, s1, s2, s3, s4, s5, s6, s7, s8]; try rfl) rfl ?_
          exact ⟨_, rfl, ⟨_, _, _, _, _, _, _, _, _, rfl⟩, by repeat (first | with_reducible exact HPz.out.bx | with_reducible refine bxset ?_ hbw (Nat.le_refl _))⟩
    · go_wp2_with fail
      have hwb : b < w10.heap.size := SP.lt _ HP10.out.inv
      have hwb1 : b < w10.heap.size + 1 := by omega
      have hgw : g1 < w10.heap.size := by obtain ⟨xs, -, h⟩ := HP10.out; exact h.sz.2.2.2
      have hbg : b < g1 := by obtain ⟨xs, -, h⟩ := HP10.out; have := h.sz; simp only [srcP_b] at this; omega
      have fb := HP10.out.free
      have fd := HP10.out.ci (k := 8) (by decide)
      have fe := HP10.out.ci (k := 6) (by decide)
      go_region_with (go_at_call 79; with_reducible refine (draw_any b A n c bs B 3 _ ?_ (by omega)).mono ?_; (focus (first | exact HP10.out.inv | exact HP10.out.drew.inv | exact (HP10.out.alloc _).drew.inv | exact (HP10.out.alloc _).inv)); rintro e11 w11 ⟨u11, rfl, ⟨r11, rfl, hr11a, hr11b⟩, hb11⟩; (first | have HP11 := Lib.hid (HP10.out.step hb11) | have HP11 := Lib.hid (HP10.out.drew.step hb11) | have HP11 := Lib.hid ((HP10.out.alloc _).step hb11) | have HP11 := Lib.hid ((HP10.out.alloc _).drew.step hb11));  have hcz := bxcell hb11; have hfz := bxfrozen hb11; simp only [srcP_b] at hcz hfz; have hsz := hb11.size; (first | simp only [World.size_alloc] at hsz | skip); have hg11 : g1 < w11.heap.size := (by first | omega | (simp at hsz; omega) | (have hsq : w10.heap.size ≤ w11.heap.size := hsz; omega)); have fc := HP11.out.ci (k := 8) (by decide); have fg := HP11.out.ci (k := 6) (by decide); have ff := HP11.out.free)
      all_goals
        go_upto_region 14 with fail
        refine gen_world (P := fun W' => Code.wp _ _ _ _ W') (Q := fun W' => QX (srcP 124 b A n c bs B) w w.heap.size g1 (.cells #[.int .i64 0, .int .i64 0, .int .i64 0, .int .i64 0, .int .i64 0, .int .i64 0, .int .i64 0, .int .i64 0, .int .i64 0] 34 (0, 0)) 34 9 W') ?_ ?_
        · first | exact HP11.out.set 6 _ | exact (HP11.out.alloc _).set 6 _ | exact (HP11.out.set 6 _).alloc _
        · intro wz HSz
          go_upto_region 14 with fail
          obtain ⟨x0, x1, x2, x3, x4, x5, x6, x7, x8, hqz⟩ := HSz.nine
          have HPz := Lib.hid hqz
          clear hqz
          obtain ⟨d0, d1, d2, d3, d4, d5, d6, d7, d8, -⟩ := blk9 (show wz.heap[g1]? = some (.cells #[.int .i64 x0, .int .i64 x1, .int .i64 x2, .int .i64 x3, .int .i64 x4, .int .i64 x5, .int .i64 x6, .int .i64 x7, .int .i64 x8] 34 (0, 0)) from HPz.out.k1)
          obtain ⟨z0, z1, z2, z3, z4, z5, z6, z7, z8, zf⟩ := blk9 HPz.out.k0
          go_wp2_with fail
          obtain ⟨s0, s1, s2, s3, s4, s5, s6, s7, s8, -⟩ := blk9 (res9 HPz.out.k0 (.int .i64 x0) (.int .i64 x1) (.int .i64 x2) (.int .i64 x3) (.int .i64 x4) (.int .i64 x5) (.int .i64 x6) (.int .i64 x7) (.int .i64 x8))
          (try simp only [Exit.inBlock, Exit.then]); refine bodyPost_ret (by simp [results, Try.results123, go_sem, s0, s1, s2, s3, s4, s5, s6, s7, s8]; try rfl) rfl ?_
          exact ⟨_, rfl, ⟨_, _, _, _, _, _, _, _, _, rfl⟩, by repeat (first | with_reducible exact HPz.out.bx | with_reducible refine bxset ?_ hbw (Nat.le_refl _))⟩
    · have hgw : g1 < w10.heap.size := by obtain ⟨xs, -, h⟩ := HP10.out; exact h.sz.2.2.2
      have fb := HP10.out.free
      have fc0 := HP10.out.ci (k := 0) (by decide)
      have fc1 := HP10.out.ci (k := 1) (by decide)
      have fc2 := HP10.out.ci (k := 2) (by decide)
      have fc3 := HP10.out.ci (k := 3) (by decide)
      have fc4 := HP10.out.ci (k := 4) (by decide)
      have fc5 := HP10.out.ci (k := 5) (by decide)
      have fc6 := HP10.out.ci (k := 6) (by decide)
      have fc7 := HP10.out.ci (k := 7) (by decide)
      have fc8 := HP10.out.ci (k := 8) (by decide)
      go_upto_region 14 with fail
      refine gen_world (P := fun W' => Code.wp _ _ _ _ W') (Q := fun W' => QX (srcP 124 b A n c bs B) w w.heap.size g1 (.cells #[.int .i64 0, .int .i64 0, .int .i64 0, .int .i64 0, .int .i64 0, .int .i64 0, .int .i64 0, .int .i64 0, .int .i64 0] 34 (0, 0)) 34 9 W') ?_ ?_
      · first | exact ((((((((HP10.out.set 0 _).set 1 _).set 2 _).set 3 _).set 4 _).set 5 _).set 6 _).set 7 _).set 8 _
      · intro wz HSz
        go_upto_region 14 with fail
        obtain ⟨x0, x1, x2, x3, x4, x5, x6, x7, x8, hqz⟩ := HSz.nine
        have HPz := Lib.hid hqz
        clear hqz
        obtain ⟨d0, d1, d2, d3, d4, d5, d6, d7, d8, -⟩ := blk9 (show wz.heap[g1]? = some (.cells #[.int .i64 x0, .int .i64 x1, .int .i64 x2, .int .i64 x3, .int .i64 x4, .int .i64 x5, .int .i64 x6, .int .i64 x7, .int .i64 x8] 34 (0, 0)) from HPz.out.k1)
        obtain ⟨z0, z1, z2, z3, z4, z5, z6, z7, z8, zf⟩ := blk9 HPz.out.k0
        go_wp2_with fail
        obtain ⟨s0, s1, s2, s3, s4, s5, s6, s7, s8, -⟩ := blk9 (res9 HPz.out.k0 (.int .i64 x0) (.int .i64 x1) (.int .i64 x2) (.int .i64 x3) (.int .i64 x4) (.int .i64 x5) (.int .i64 x6) (.int .i64 x7) (.int .i64 x8))
        (try simp only [Exit.inBlock, Exit.then]); refine bodyPost_ret (by simp [results, Try.results123, go_sem, s0, s1, s2, s3, s4, s5, s6, s7, s8]; try rfl) rfl ?_
        exact ⟨_, rfl, ⟨_, _, _, _, _, _, _, _, _, rfl⟩, by repeat (first | with_reducible exact HPz.out.bx | with_reducible refine bxset ?_ hbw (Nat.le_refl _))⟩
    · go_upto_region 14 with fail
      obtain ⟨x0, x1, x2, x3, x4, x5, x6, x7, x8, hqz⟩ := HP10.out.nine
      have HPz := Lib.hid hqz
      clear hqz
      obtain ⟨d0, d1, d2, d3, d4, d5, d6, d7, d8, -⟩ := blk9 (show w10.heap[g1]? = some (.cells #[.int .i64 x0, .int .i64 x1, .int .i64 x2, .int .i64 x3, .int .i64 x4, .int .i64 x5, .int .i64 x6, .int .i64 x7, .int .i64 x8] 34 (0, 0)) from HPz.out.k1)
      obtain ⟨z0, z1, z2, z3, z4, z5, z6, z7, z8, zf⟩ := blk9 HPz.out.k0
      go_wp2_with fail
      obtain ⟨s0, s1, s2, s3, s4, s5, s6, s7, s8, -⟩ := blk9 (res9 HPz.out.k0 (.int .i64 x0) (.int .i64 x1) (.int .i64 x2) (.int .i64 x3) (.int .i64 x4) (.int .i64 x5) (.int .i64 x6) (.int .i64 x7) (.int .i64 x8))
      (try simp only [Exit.inBlock, Exit.then]); refine bodyPost_ret (by simp [results, Try.results123, go_sem, s0, s1, s2, s3, s4, s5, s6, s7, s8]; try rfl) rfl ?_
      exact ⟨_, rfl, ⟨_, _, _, _, _, _, _, _, _, rfl⟩, by repeat (first | with_reducible exact HPz.out.bx | with_reducible refine bxset ?_ hbw (Nat.le_refl _))⟩

  · obtain ⟨h1, h2, h3, h4, h5⟩ := quadB_true hqq
    have M := Lib.hid (fun w => l25Quad_any q0 q1 q2 q3 q4 q5 q6 q7 w h1 h2 h3 h4 (by rw [det_turn]; omega))
    generalize redL (quadE q0 q1 q2 q3 q6 q7 (q0 - q2 + q4 - q6) (q1 - q3 + q5 - q7) (q2 - q4) (q3 - q5) (q6 - q4) (q7 - q5)) = LL at M
    obtain ⟨qa, qb, qc, qd, qe, qf, qg, qh, -⟩ := blk8 HQ2.out
    clear h1 h2 h3 h4 h5 hqq HQ2
    go_wp2_with fail
    go_at_call 126
    with_reducible refine (M.out _).mono ?_
    rintro e3 w3 ⟨rfl, hb3⟩
    have HX3 := Lib.hid (HX2.out.below hb3)
    clear hb3 qa qb qc qd qe qf qg qh HX2 M
    have fb := HX3.out.free
    have fe0 := HX3.out.ci (k := 0) (by decide)
    have fe1 := HX3.out.ci (k := 1) (by decide)
    have fe2 := HX3.out.ci (k := 2) (by decide)
    have fe3 := HX3.out.ci (k := 3) (by decide)
    have fe4 := HX3.out.ci (k := 4) (by decide)
    have fe5 := HX3.out.ci (k := 5) (by decide)
    have fe6 := HX3.out.ci (k := 6) (by decide)
    have fe7 := HX3.out.ci (k := 7) (by decide)
    have fe8 := HX3.out.ci (k := 8) (by decide)
    go_upto_region 5 with fail
    have HX4 := Lib.hid (((((((((HX3.out.set 0 (nth LL 0)).set 1 (nth LL 1)).set 2 (nth LL 2)).set 3 (nth LL 3)).set 4 (nth LL 4)).set 5 (nth LL 5)).set 6 (nth LL 6)).set 7 (nth LL 7)).set 8 (nth LL 8))
    generalize (w3 |>.setCell ⟨g1, 0, none⟩ (.int .i64 (nth LL 0)) |>.setCell ⟨g1, 1, none⟩ (.int .i64 (nth LL 1)) |>.setCell ⟨g1, 2, none⟩ (.int .i64 (nth LL 2)) |>.setCell ⟨g1, 3, none⟩ (.int .i64 (nth LL 3)) |>.setCell ⟨g1, 4, none⟩ (.int .i64 (nth LL 4)) |>.setCell ⟨g1, 5, none⟩ (.int .i64 (nth LL 5)) |>.setCell ⟨g1, 6, none⟩ (.int .i64 (nth LL 6)) |>.setCell ⟨g1, 7, none⟩ (.int .i64 (nth LL 7)) |>.setCell ⟨g1, 8, none⟩ (.int .i64 (nth LL 8))) = w4 at *
    clear fb fe0 fe1 fe2 fe3 fe4 fe5 fe6 fe7 fe8 HX3
    go_wp2_with fail
    go_at_call 79; with_reducible refine (draw_any b A n c bs B 24 _ ?_ (by omega)).mono ?_; (focus (first | exact HX4.out.inv | exact HX4.out.drew.inv | exact (HX4.out.alloc _).drew.inv | exact (HX4.out.alloc _).inv)); rintro e10 w10 ⟨u10, rfl, ⟨r10, rfl, hr10a, hr10b⟩, hb10⟩; (first | have HP10 := Lib.hid (HX4.out.step hb10) | have HP10 := Lib.hid (HX4.out.drew.step hb10) | have HP10 := Lib.hid ((HX4.out.alloc _).step hb10) | have HP10 := Lib.hid ((HX4.out.alloc _).drew.step hb10))
    clear hb10
    rcases (show r10 = 0 ∨ r10 = 1 ∨ r10 = 2 ∨ r10 = 3 ∨ (¬ r10 = 0 ∧ ¬ r10 = 1 ∧ ¬ r10 = 2 ∧ ¬ r10 = 3) by omega) with rfl | rfl | rfl | rfl | ⟨n0, n1, n2, n3⟩
    · go_wp2_with fail
      have hwb : b < w10.heap.size := SP.lt _ HP10.out.inv
      have hwb1 : b < w10.heap.size + 1 := by omega
      have hgw : g1 < w10.heap.size := by obtain ⟨xs, -, h⟩ := HP10.out; exact h.sz.2.2.2
      have hbg : b < g1 := by obtain ⟨xs, -, h⟩ := HP10.out; have := h.sz; simp only [srcP_b] at this; omega
      have fb := HP10.out.free
      have fd := HP10.out.ci (k := 8) (by decide)
      have fe := HP10.out.ci (k := 8) (by decide)
      go_region_with (go_at_call 79; with_reducible refine (draw_any b A n c bs B 2 _ ?_ (by omega)).mono ?_; (focus (first | exact HP10.out.inv | exact HP10.out.drew.inv | exact (HP10.out.alloc _).drew.inv | exact (HP10.out.alloc _).inv)); rintro e11 w11 ⟨u11, rfl, ⟨r11, rfl, hr11a, hr11b⟩, hb11⟩; (first | have HP11 := Lib.hid (HP10.out.step hb11) | have HP11 := Lib.hid (HP10.out.drew.step hb11) | have HP11 := Lib.hid ((HP10.out.alloc _).step hb11) | have HP11 := Lib.hid ((HP10.out.alloc _).drew.step hb11));  have hcz := bxcell hb11; have hfz := bxfrozen hb11; simp only [srcP_b] at hcz hfz; have hsz := hb11.size; (first | simp only [World.size_alloc] at hsz | skip); have hg11 : g1 < w11.heap.size := (by first | omega | (simp at hsz; omega) | (have hsq : w10.heap.size ≤ w11.heap.size := hsz; omega)); have fc := HP11.out.ci (k := 8) (by decide); have fg := HP11.out.ci (k := 8) (by decide); have ff := HP11.out.free; obtain ⟨R, hRr⟩ := Int.eq_ofNat_of_zero_le hr11a; subst hRr; have hR2 : R < 2 := (by omega); have h2 := two_at hR2; have h3 := two_atL hR2; (first | have hcp := blk2R ((hb11.block _ (by simp) (by simp; omega)).trans (heap_alloc_new _ _)) hR2 | skip))
      all_goals
        go_upto_region 14 with fail
        refine gen_world (P := fun W' => Code.wp _ _ _ _ W') (Q := fun W' => QX (srcP 124 b A n c bs B) w w.heap.size g1 (.cells #[.int .i64 0, .int .i64 0, .int .i64 0, .int .i64 0, .int .i64 0, .int .i64 0, .int .i64 0, .int .i64 0, .int .i64 0] 34 (0, 0)) 34 9 W') ?_ ?_
        · first | exact HP11.out.set 8 _ | exact (HP11.out.alloc _).set 8 _ | exact (HP11.out.set 8 _).alloc _
        · intro wz HSz
          go_upto_region 14 with fail
          obtain ⟨x0, x1, x2, x3, x4, x5, x6, x7, x8, hqz⟩ := HSz.nine
          have HPz := Lib.hid hqz
          clear hqz
          obtain ⟨d0, d1, d2, d3, d4, d5, d6, d7, d8, -⟩ := blk9 (show wz.heap[g1]? = some (.cells #[.int .i64 x0, .int .i64 x1, .int .i64 x2, .int .i64 x3, .int .i64 x4, .int .i64 x5, .int .i64 x6, .int .i64 x7, .int .i64 x8] 34 (0, 0)) from HPz.out.k1)
          obtain ⟨z0, z1, z2, z3, z4, z5, z6, z7, z8, zf⟩ := blk9 HPz.out.k0
          go_wp2_with fail
          obtain ⟨s0, s1, s2, s3, s4, s5, s6, s7, s8, -⟩ := blk9 (res9 HPz.out.k0 (.int .i64 x0) (.int .i64 x1) (.int .i64 x2) (.int .i64 x3) (.int .i64 x4) (.int .i64 x5) (.int .i64 x6) (.int .i64 x7) (.int .i64 x8))
          (try simp only [Exit.inBlock, Exit.then]); refine bodyPost_ret (by simp [results, Try.results123, go_sem, s0, s1, s2, s3, s4, s5, s6, s7, s8]; try rfl) rfl ?_
          exact ⟨_, rfl, ⟨_, _, _, _, _, _, _, _, _, rfl⟩, by repeat (first | with_reducible exact HPz.out.bx | with_reducible refine bxset ?_ hbw (Nat.le_refl _))⟩
    · have hwb : b < w10.heap.size := SP.lt _ HP10.out.inv
      have hwb1 : b < w10.heap.size + 1 := by omega
      have hgw : g1 < w10.heap.size := by obtain ⟨xs, -, h⟩ := HP10.out; exact h.sz.2.2.2
      have hbg : b < g1 := by obtain ⟨xs, -, h⟩ := HP10.out; have := h.sz; simp only [srcP_b] at this; omega
      have fb := HP10.out.free
      have fd := HP10.out.ci (k := 8) (by decide)
      have fe := HP10.out.ci (k := 0) (by decide)
      go_wp2_with fail
      go_at_call 79; with_reducible refine (draw_any b A n c bs B 3 _ ?_ (by omega)).mono ?_; (focus (first | exact HP10.out.inv | exact HP10.out.drew.inv | exact (HP10.out.alloc _).drew.inv | exact (HP10.out.alloc _).inv)); rintro e11 w11 ⟨u11, rfl, ⟨r11, rfl, hr11a, hr11b⟩, hb11⟩; (first | have HP11 := Lib.hid (HP10.out.step hb11) | have HP11 := Lib.hid (HP10.out.drew.step hb11) | have HP11 := Lib.hid ((HP10.out.alloc _).step hb11) | have HP11 := Lib.hid ((HP10.out.alloc _).drew.step hb11))
      have hcz := bxcell hb11
      have hfz := bxfrozen hb11
      simp only [srcP_b] at hcz hfz
      have fg := HP11.out.ci (k := 0) (by decide)
      have ff := HP11.out.free
      rcases (show r11 = 0 ∨ r11 = 1 ∨ r11 = 2 by omega) with rfl | rfl | rfl
      all_goals
        go_upto_region 14 with fail
        refine gen_world (P := fun W' => Code.wp _ _ _ _ W') (Q := fun W' => QX (srcP 124 b A n c bs B) w w.heap.size g1 (.cells #[.int .i64 0, .int .i64 0, .int .i64 0, .int .i64 0, .int .i64 0, .int .i64 0, .int .i64 0, .int .i64 0, .int .i64 0] 34 (0, 0)) 34 9 W') ?_ ?_
        · first | exact HP11.out.set 0 _
        · intro wz HSz
          go_upto_region 14 with fail
          obtain ⟨x0, x1, x2, x3, x4, x5, x6, x7, x8, hqz⟩ := HSz.nine
          have HPz := Lib.hid hqz
          clear hqz
          obtain ⟨d0, d1, d2, d3, d4, d5, d6, d7, d8, -⟩ := blk9 (show wz.heap[g1]? = some (.cells #[.int .i64 x0, .int .i64 x1, .int .i64 x2, .int .i64 x3, .int .i64 x4, .int .i64 x5, .int .i64 x6, .int .i64 x7, .int .i64 x8] 34 (0, 0)) from HPz.out.k1)
          obtain ⟨z0, z1, z2, z3, z4, z5, z6, z7, z8, zf⟩ := blk9 HPz.out.k0
          go_wp2_with fail
          obtain ⟨s0, s1, s2, s3, s4, s5, s6, s7, s8, -⟩ := blk9 (res9 HPz.out.k0 (.int .i64 x0) (.int .i64 x1) (.int .i64 x2) (.int .i64 x3) (.int .i64 x4) (.int .i64 x5) (.int .i64 x6) (.int .i64 x7) (.int .i64 x8))
          (try simp only [Exit.inBlock, Exit.then]); refine bodyPost_ret (by simp [results, Try.results123, go_sem, s0, s1, s2, s3, s4, s5, s6, s7, s8]; try rfl) rfl ?_
          exact ⟨_, rfl, ⟨_, _, _, _, _, _, _, _, _, rfl⟩, by repeat (first | with_reducible exact HPz.out.bx | with_reducible refine bxset ?_ hbw (Nat.le_refl _))⟩
    · go_wp2_with fail
      have hwb : b < w10.heap.size := SP.lt _ HP10.out.inv
      have hwb1 : b < w10.heap.size + 1 := by omega
      have hgw : g1 < w10.heap.size := by obtain ⟨xs, -, h⟩ := HP10.out; exact h.sz.2.2.2
      have hbg : b < g1 := by obtain ⟨xs, -, h⟩ := HP10.out; have := h.sz; simp only [srcP_b] at this; omega
      have fb := HP10.out.free
      have fd := HP10.out.ci (k := 8) (by decide)
      have fe := HP10.out.ci (k := 6) (by decide)
      go_region_with (go_at_call 79; with_reducible refine (draw_any b A n c bs B 3 _ ?_ (by omega)).mono ?_; (focus (first | exact HP10.out.inv | exact HP10.out.drew.inv | exact (HP10.out.alloc _).drew.inv | exact (HP10.out.alloc _).inv)); rintro e11 w11 ⟨u11, rfl, ⟨r11, rfl, hr11a, hr11b⟩, hb11⟩; (first | have HP11 := Lib.hid (HP10.out.step hb11) | have HP11 := Lib.hid (HP10.out.drew.step hb11) | have HP11 := Lib.hid ((HP10.out.alloc _).step hb11) | have HP11 := Lib.hid ((HP10.out.alloc _).drew.step hb11));  have hcz := bxcell hb11; have hfz := bxfrozen hb11; simp only [srcP_b] at hcz hfz; have hsz := hb11.size; (first | simp only [World.size_alloc] at hsz | skip); have hg11 : g1 < w11.heap.size := (by first | omega | (simp at hsz; omega) | (have hsq : w10.heap.size ≤ w11.heap.size := hsz; omega)); have fc := HP11.out.ci (k := 8) (by decide); have fg := HP11.out.ci (k := 6) (by decide); have ff := HP11.out.free)
      all_goals
        go_upto_region 14 with fail
        refine gen_world (P := fun W' => Code.wp _ _ _ _ W') (Q := fun W' => QX (srcP 124 b A n c bs B) w w.heap.size g1 (.cells #[.int .i64 0, .int .i64 0, .int .i64 0, .int .i64 0, .int .i64 0, .int .i64 0, .int .i64 0, .int .i64 0, .int .i64 0] 34 (0, 0)) 34 9 W') ?_ ?_
        · first | exact HP11.out.set 6 _ | exact (HP11.out.alloc _).set 6 _ | exact (HP11.out.set 6 _).alloc _
        · intro wz HSz
          go_upto_region 14 with fail
          obtain ⟨x0, x1, x2, x3, x4, x5, x6, x7, x8, hqz⟩ := HSz.nine
          have HPz := Lib.hid hqz
          clear hqz
          obtain ⟨d0, d1, d2, d3, d4, d5, d6, d7, d8, -⟩ := blk9 (show wz.heap[g1]? = some (.cells #[.int .i64 x0, .int .i64 x1, .int .i64 x2, .int .i64 x3, .int .i64 x4, .int .i64 x5, .int .i64 x6, .int .i64 x7, .int .i64 x8] 34 (0, 0)) from HPz.out.k1)
          obtain ⟨z0, z1, z2, z3, z4, z5, z6, z7, z8, zf⟩ := blk9 HPz.out.k0
          go_wp2_with fail
          obtain ⟨s0, s1, s2, s3, s4, s5, s6, s7, s8, -⟩ := blk9 (res9 HPz.out.k0 (.int .i64 x0) (.int .i64 x1) (.int .i64 x2) (.int .i64 x3) (.int .i64 x4) (.int .i64 x5) (.int .i64 x6) (.int .i64 x7) (.int .i64 x8))
          (try simp only [Exit.inBlock, Exit.then]); refine bodyPost_ret (by simp [results, Try.results123, go_sem, s0, s1, s2, s3, s4, s5, s6, s7, s8]; try rfl) rfl ?_
          exact ⟨_, rfl, ⟨_, _, _, _, _, _, _, _, _, rfl⟩, by repeat (first | with_reducible exact HPz.out.bx | with_reducible refine bxset ?_ hbw (Nat.le_refl _))⟩
    · have hgw : g1 < w10.heap.size := by obtain ⟨xs, -, h⟩ := HP10.out; exact h.sz.2.2.2
      have fb := HP10.out.free
      have fc0 := HP10.out.ci (k := 0) (by decide)
      have fc1 := HP10.out.ci (k := 1) (by decide)
      have fc2 := HP10.out.ci (k := 2) (by decide)
      have fc3 := HP10.out.ci (k := 3) (by decide)
      have fc4 := HP10.out.ci (k := 4) (by decide)
      have fc5 := HP10.out.ci (k := 5) (by decide)
      have fc6 := HP10.out.ci (k := 6) (by decide)
      have fc7 := HP10.out.ci (k := 7) (by decide)
      have fc8 := HP10.out.ci (k := 8) (by decide)
      go_upto_region 14 with fail
      refine gen_world (P := fun W' => Code.wp _ _ _ _ W') (Q := fun W' => QX (srcP 124 b A n c bs B) w w.heap.size g1 (.cells #[.int .i64 0, .int .i64 0, .int .i64 0, .int .i64 0, .int .i64 0, .int .i64 0, .int .i64 0, .int .i64 0, .int .i64 0] 34 (0, 0)) 34 9 W') ?_ ?_
      · first | exact ((((((((HP10.out.set 0 _).set 1 _).set 2 _).set 3 _).set 4 _).set 5 _).set 6 _).set 7 _).set 8 _
      · intro wz HSz
        go_upto_region 14 with fail
        obtain ⟨x0, x1, x2, x3, x4, x5, x6, x7, x8, hqz⟩ := HSz.nine
        have HPz := Lib.hid hqz
        clear hqz
        obtain ⟨d0, d1, d2, d3, d4, d5, d6, d7, d8, -⟩ := blk9 (show wz.heap[g1]? = some (.cells #[.int .i64 x0, .int .i64 x1, .int .i64 x2, .int .i64 x3, .int .i64 x4, .int .i64 x5, .int .i64 x6, .int .i64 x7, .int .i64 x8] 34 (0, 0)) from HPz.out.k1)
        obtain ⟨z0, z1, z2, z3, z4, z5, z6, z7, z8, zf⟩ := blk9 HPz.out.k0
        go_wp2_with fail
        obtain ⟨s0, s1, s2, s3, s4, s5, s6, s7, s8, -⟩ := blk9 (res9 HPz.out.k0 (.int .i64 x0) (.int .i64 x1) (.int .i64 x2) (.int .i64 x3) (.int .i64 x4) (.int .i64 x5) (.int .i64 x6) (.int .i64 x7) (.int .i64 x8))
        (try simp only [Exit.inBlock, Exit.then]); refine bodyPost_ret (by simp [results, Try.results123, go_sem, s0, s1, s2, s3, s4, s5, s6, s7, s8]; try rfl) rfl ?_
        exact ⟨_, rfl, ⟨_, _, _, _, _, _, _, _, _, rfl⟩, by repeat (first | with_reducible exact HPz.out.bx | with_reducible refine bxset ?_ hbw (Nat.le_refl _))⟩
    · go_upto_region 14 with fail
      obtain ⟨x0, x1, x2, x3, x4, x5, x6, x7, x8, hqz⟩ := HP10.out.nine
      have HPz := Lib.hid hqz
      clear hqz
      obtain ⟨d0, d1, d2, d3, d4, d5, d6, d7, d8, -⟩ := blk9 (show w10.heap[g1]? = some (.cells #[.int .i64 x0, .int .i64 x1, .int .i64 x2, .int .i64 x3, .int .i64 x4, .int .i64 x5, .int .i64 x6, .int .i64 x7, .int .i64 x8] 34 (0, 0)) from HPz.out.k1)
      obtain ⟨z0, z1, z2, z3, z4, z5, z6, z7, z8, zf⟩ := blk9 HPz.out.k0
      go_wp2_with fail
      obtain ⟨s0, s1, s2, s3, s4, s5, s6, s7, s8, -⟩ := blk9 (res9 HPz.out.k0 (.int .i64 x0) (.int .i64 x1) (.int .i64 x2) (.int .i64 x3) (.int .i64 x4) (.int .i64 x5) (.int .i64 x6) (.int .i64 x7) (.int .i64 x8))
      (try simp only [Exit.inBlock, Exit.then]); refine bodyPost_ret (by simp [results, Try.results123, go_sem, s0, s1, s2, s3, s4, s5, s6, s7, s8]; try rfl) rfl ?_
      exact ⟨_, rfl, ⟨_, _, _, _, _, _, _, _, _, rfl⟩, by repeat (first | with_reducible exact HPz.out.bx | with_reducible refine bxset ?_ hbw (Nat.le_refl _))⟩

end Go.Proofs.Ytflpllmbpfdnjaa
