/-
  The row FnLayouts: a valid layout of a symbol has exactly as many elements as the symbol, and its blocks have room for half as many errors as checks, for every family, size and level that a code draws; no condition. Printed by gen/lfl.py.
-/
import Derived.Test.YtbgcbjfimjfbpaaMLd
import Derived.Test.YtbgcbjfimjfbpaaArgB
import Derived.Test.YtbgcbjfimjfbpaaMLb
namespace Go.Proofs.Ytbgcbjfimjfbpaa
set_option linter.unusedSimpArgs false
open Go.RowKit

theorem far8 {w : World} {g q t : Nat} {cs : Array Value} (u0 u1 u2 u3 u4 u5 u6 u7 : Value) (h : w.heap[g]? = some (.cells cs t (0, 0))) (hne : g ≠ q) :
    ((((((((w.setCell ⟨q, 0, none⟩ u0).setCell ⟨q, 1, none⟩ u1).setCell ⟨q, 2, none⟩ u2).setCell ⟨q, 3, none⟩ u3).setCell ⟨q, 4, none⟩ u4).setCell ⟨q, 5, none⟩ u5).setCell ⟨q, 6, none⟩ u6).setCell ⟨q, 7, none⟩ u7).heap[g]? = some (.cells cs t (0, 0)) :=
  blk_other (blk_other (blk_other (blk_other (blk_other (blk_other (blk_other (blk_other h hne) hne) hne) hne) hne) hne) hne) hne
def IntV (u : Value) : Prop := ∃ x : Int, u = .int .i64 x
/-- One of two numbers. -/
def pick2 (R : Nat) (x y : Int) : Int := if R = 0 then x else y
theorem two_at {R : Nat} (h : R < 2) (x y : Int) : (#[Value.int .i64 x, Value.int .i64 y] : Array Value)[R]? = some (.int .i64 (pick2 R x y)) := by
  rcases (show R = 0 ∨ R = 1 by omega) with rfl | rfl <;> rfl
theorem two_atL {R : Nat} (hR : R < 2) : ∀ (x y : Int) (h : R < [Value.int .i64 x, Value.int .i64 y].length), [Value.int .i64 x, Value.int .i64 y][R]'h = .int .i64 (pick2 R x y) := by
  intro x y h
  rcases (show R = 0 ∨ R = 1 by omega) with rfl | rfl <;> rfl
theorem blk2R {w : World} {b t R : Nat} {x y : Int} (h : w.heap[b]? = some (.cells #[.int .i64 x, .int .i64 y] t (0, 0))) (hR : R < 2) : w.cell? ⟨b, R, none⟩ = some (.int .i64 (pick2 R x y)) := (blk_cell h R).trans (two_at hR x y)
/-- A family in a box that came in, its lists elsewhere, and what draws keep. -/
structure FbP (P : SP) (w : World) (g : Nat) (cs : Array Value) (v1 v2 : Value) (sz lv : List Int) (W : World) : Prop where
  bx : BX P w.heap.size w W
  inv : P.I W
  lb : P.b < w.heap.size
  l0 : w.heap.size ≤ g
  l1 : g < W.heap.size
  k : W.heap[g]? = some (.cells cs 34 (0, 0))
  o1 : Own W (P.b + 1) v1 sz
  o2 : Own W (P.b + 1) v2 lv
section
variable {P : SP} {w W W' : World} {g : Nat} {cs : Array Value} {v1 v2 : Value} {sz lv : List Int}
theorem FbP.step (h : FbP P w g cs v1 v2 sz lv W) (hb : BX P W.heap.size W W') : FbP P w g cs v1 v2 sz lv W' := by
  obtain ⟨h1, h2, h3, h4, h5, h6, h7, h8⟩ := h
  have hs := hb.size
  exact ⟨h1.trans (hb.mono (by omega)), hb.inv h2, h3, h4, by omega, (hb.block _ h5 (by omega)).trans h6, h7.bx hb (by omega), h8.bx hb (by omega)⟩
theorem FbP.alloc (h : FbP P w g cs v1 v2 sz lv W) (o : Obj) : FbP P w g cs v1 v2 sz lv (W.alloc o) := h.step ((BX.refl _ _ _).alloc (Nat.le_refl _) o)
theorem FbP.drew (h : FbP P w g cs v1 v2 sz lv W) : FbP P w g cs v1 v2 sz lv W.drew := h.step (BX.refl _ _ _).drew
end

set_option maxRecDepth 20000 in
set_option maxHeartbeats 8000000 in
theorem l13DrawSize_any (b : Nat) (A : Option Addr) (n c : Nat) (bs : List Int) (B : Nat) (s : ByteArray) (kind p k gg col : Int) (A1 A2 : Option Addr) (c1 c2 : Nat) (sz lv : List Int) (w : World) (hI : (srcP 106 b A n c bs B).I w) (ho1 : Own w (b + 1) (.slice A1 sz.length c1) sz) (ho2 : Own w (b + 1) (.slice A2 lv.length c2) lv) (hlen : sz.length ≤ 100) :
    Calls Try.prog 57 #[.pointer (some ⟨b, 0, none⟩), .agg #[.string s, .int .i64 kind, .int .i64 p, .int .i64 k, .int .i64 gg, .slice A1 sz.length c1, .int .i64 col, .slice A2 lv.length c2]] w fun e w' => ∃ u, e = .returned u ∧ IntV u ∧ BX (srcP 106 b A n c bs B) w.heap.size w w' := by
  have hbw := srcP_lt hI
  have HP0 : Hid (FbP (srcP 106 b A n c bs B) w w.heap.size #[.string s, .int .i64 kind, .int .i64 p, .int .i64 k, .int .i64 gg, .slice A1 sz.length c1, .int .i64 col, .slice A2 lv.length c2] (.slice A1 sz.length c1) (.slice A2 lv.length c2) sz lv (w.alloc (.cells #[.string s, .int .i64 kind, .int .i64 p, .int .i64 k, .int .i64 gg, .slice A1 sz.length c1, .int .i64 col, .slice A2 lv.length c2] 34))) := Lib.hid ⟨(BX.refl _ _ _).alloc (Nat.le_refl _) _, ((BX.refl _ (b + 1) w).alloc (by omega) _).inv hI, hbw, Nat.le_refl _, by simp, heap_alloc_new _ _, ho1.keep ((Below.refl _ _).alloc (Nat.le_refl _) _), ho2.keep ((Below.refl _ _).alloc (Nat.le_refl _) _)⟩
  clear hI ho1 ho2
  by_cases h0 : sz.length = 0
  · have hx : sz = [] := List.length_eq_zero_iff.1 h0
    subst hx
    simp only [List.length_nil] at HP0 ⊢
    go_enter Try.func57, Try.ntmps57
    go_wp2_with fail
    go_at_call 93
    with_reducible refine (draw_any b A n c bs B (5) _ (HP0.out.alloc _).inv (by omega)).mono ?_
    rintro e3 w3 ⟨u3, rfl, ⟨r3, rfl, hr3a, hr3b⟩, hb3⟩
    have HP3 := Lib.hid ((HP0.out.alloc _).step hb3)
    have hl3 : w3.heap[(w.alloc (.cells #[.string s, .int .i64 kind, .int .i64 p, .int .i64 k, .int .i64 gg, .slice A1 0 c1, .int .i64 col, .slice A2 lv.length c2] 34)).heap.size]? = some (.cells ([0, 3, 17, 18, 45].map (Value.int .i64)).toArray 2 (0, 0)) := (hb3.block _ (by simp) (by simp; omega)).trans (heap_alloc_new _ _)
    obtain ⟨R, v, rfl, hR, hv, -, -⟩ := pick_in (xs := [0, 3, 17, 18, 45]) (lo := 0) (hi := 45) (by decide) hr3a (by simp; omega)
    have hck := pick_lit hl3 hv
    have hR' : R < 5 := hR
    have hs3 := hb3.size
    simp only [World.size_alloc] at hs3 hck
    clear hl3 hv hb3
    go_wp2_with fail
    first | go_ret | go_returns
    exact ⟨_, rfl, ⟨_, rfl⟩, HP3.out.bx⟩
  · obtain ⟨N, hN⟩ : ∃ N, sz.length = N := ⟨_, rfl⟩
    have HN := Lib.hid hN
    have hpos : 1 ≤ N := by omega
    rw [hN] at hlen HP0 ⊢
    clear h0 hN
    have e0 : ((N : Int) == 0) = false := by simp; omega
    have e0' : decide ((N : Int) = 0) = false := by simp; omega
    go_enter Try.func57, Try.ntmps57
    go_wp2_with fail
    go_at_call 93
    with_reducible refine (draw_any b A n c bs B (20) _ HP0.out.inv (by omega)).mono ?_
    rintro e1 w1 ⟨u1, rfl, ⟨r1, rfl, hr1a, hr1b⟩, hb1⟩
    have HP1 := Lib.hid (HP0.out.step hb1)
    clear hb1
    by_cases h1 : r1 = 0
    · subst h1
      have hw1 : w.heap.size < w1.heap.size := HP1.out.l1
      go_wp2_with fail
      go_at_call 93
      with_reducible refine (draw_any b A n c bs B (5) _ (HP1.out.alloc _).inv (by omega)).mono ?_
      rintro e3 w3 ⟨u3, rfl, ⟨r3, rfl, hr3a, hr3b⟩, hb3⟩
      have HP3 := Lib.hid ((HP1.out.alloc _).step hb3)
      have hl3 : w3.heap[w1.heap.size]? = some (.cells ([0, 3, 17, 18, 45].map (Value.int .i64)).toArray 2 (0, 0)) := (hb3.block _ (by simp) (by simp; omega)).trans (heap_alloc_new _ _)
      obtain ⟨R, v, rfl, hR, hv, -, -⟩ := pick_in (xs := [0, 3, 17, 18, 45]) (lo := 0) (hi := 45) (by decide) hr3a (by simp; omega)
      have hck := pick_lit hl3 hv
      have hR' : R < 5 := hR
      have hs3 := hb3.size
      simp only [World.size_alloc] at hs3 hck
      clear hl3 hv hb3
      go_wp2_with fail
      first | go_ret | go_returns
      exact ⟨_, rfl, ⟨_, rfl⟩, HP3.out.bx⟩
    · have e1 : (r1 == 0) = false := by simpa using h1
      have hw1 : w.heap.size < w1.heap.size := HP1.out.l1
      obtain ⟨y0, y1, y2, y3, y4, y5, y6, y7, -⟩ := blk8 HP1.out.k
      obtain ⟨gr, cr, er, hgr, hgw, hcr, -⟩ := HP1.out.o1.row (by rw [HN.out]; exact hpos)
      rw [HN.out] at er hcr
      simp only [Value.slice.injEq] at er
      obtain ⟨rfl, -, rfl⟩ := er
      simp only [srcP_b] at hgr
      go_upto_region 3 with fail
      go_region_held3 (fun w' => w'.cell? ⟨w.heap.size, 5, none⟩ = some (.slice (some ⟨gr, 0, none⟩) N c1) ∧ (∀ j, j < N → w'.cell? ⟨gr, j, none⟩ = some (.int .i64 (nth sz j))))
        (first | exact ⟨q5, hcr2⟩ | exact ⟨y5, hcr⟩ | go_keep)
        ((go_at_call 93
          with_reducible refine (draw_any b A n c bs B (N : Int) _ HP1.out.drew.inv (by omega)).mono ?_
          rintro e2 w2 ⟨u2, rfl, ⟨r2, rfl, hr2a, hr2b⟩, hb2⟩
          have HP2 := Lib.hid (HP1.out.drew.step hb2)
          obtain ⟨R, rfl⟩ := Int.eq_ofNat_of_zero_le hr2a
          have hR : R < N := by omega
          have hRi : (R : Int) < N := by omega
          obtain ⟨q0, q1, q2, q3, q4, q5, q6, q7, -⟩ := blk8 HP2.out.k
          have hcr2 : ∀ j, j < N → w2.cell? ⟨gr, j, none⟩ = some (.int .i64 (nth sz j)) := fun j hj => (hb2.cell (b := gr) (o := j) hgw (by simp; omega)).trans (hcr j hj)
          clear hb2))
      go_wp2_with fail
      first | go_ret | go_returns
      exact ⟨_, rfl, ⟨_, rfl⟩, HP2.out.bx⟩
set_option maxRecDepth 20000 in
set_option maxHeartbeats 8000000 in
theorem l13DrawLevel_any (b : Nat) (A : Option Addr) (n c : Nat) (bs : List Int) (B : Nat) (s : ByteArray) (kind p k gg col : Int) (A1 A2 : Option Addr) (c1 c2 : Nat) (sz lv : List Int) (w : World) (hI : (srcP 106 b A n c bs B).I w) (ho1 : Own w (b + 1) (.slice A1 sz.length c1) sz) (ho2 : Own w (b + 1) (.slice A2 lv.length c2) lv) (hlen : lv.length ≤ 100) :
    Calls Try.prog 58 #[.pointer (some ⟨b, 0, none⟩), .agg #[.string s, .int .i64 kind, .int .i64 p, .int .i64 k, .int .i64 gg, .slice A1 sz.length c1, .int .i64 col, .slice A2 lv.length c2]] w fun e w' => ∃ u, e = .returned u ∧ IntV u ∧ BX (srcP 106 b A n c bs B) w.heap.size w w' := by
  have hbw := srcP_lt hI
  have HP0 : Hid (FbP (srcP 106 b A n c bs B) w w.heap.size #[.string s, .int .i64 kind, .int .i64 p, .int .i64 k, .int .i64 gg, .slice A1 sz.length c1, .int .i64 col, .slice A2 lv.length c2] (.slice A1 sz.length c1) (.slice A2 lv.length c2) sz lv (w.alloc (.cells #[.string s, .int .i64 kind, .int .i64 p, .int .i64 k, .int .i64 gg, .slice A1 sz.length c1, .int .i64 col, .slice A2 lv.length c2] 34))) := Lib.hid ⟨(BX.refl _ _ _).alloc (Nat.le_refl _) _, ((BX.refl _ (b + 1) w).alloc (by omega) _).inv hI, hbw, Nat.le_refl _, by simp, heap_alloc_new _ _, ho1.keep ((Below.refl _ _).alloc (Nat.le_refl _) _), ho2.keep ((Below.refl _ _).alloc (Nat.le_refl _) _)⟩
  clear hI ho1 ho2
  obtain ⟨M, hM⟩ : ∃ M, lv.length = M := ⟨_, rfl⟩
  rw [hM] at hlen HP0 ⊢
  clear hM
  go_enter Try.func58, Try.ntmps58
  go_wp2_with fail
  go_at_call 93
  with_reducible refine (draw_any b A n c bs B (20) _ HP0.out.inv (by omega)).mono ?_
  rintro e1 w1 ⟨u1, rfl, ⟨r1, rfl, hr1a, hr1b⟩, hb1⟩
  have HP1 := Lib.hid (HP0.out.step hb1)
  clear hb1
  have hw1 : w.heap.size < w1.heap.size := HP1.out.l1
  have hbw1 : b < w1.heap.size := by omega
  obtain ⟨y0, y1, y2, y3, y4, y5, y6, y7, -⟩ := blk8 HP1.out.k
  by_cases h1 : r1 = 0
  · subst h1
    have HLA : Hid ((w1.alloc (.cells #[.int .i64 (-1), .int .i64 (M : Int)] 2)).drew.heap[w1.heap.size]? = some (.cells #[.int .i64 (-1), .int .i64 (M : Int)] 2 (0, 0))) := Lib.hid (heap_alloc_new _ _)
    go_upto_region 2 with fail
    go_region_with (go_at_call 93; with_reducible refine (draw_any b A n c bs B (2) _ (by first | exact HP1.out.drew.inv | exact (HP1.out.alloc _).drew.inv) (by omega)).mono ?_; rintro e2 w2 ⟨u2, rfl, ⟨r2, rfl, hr2a, hr2b⟩, hb2⟩; (first | have HP2 := Lib.hid (HP1.out.drew.step hb2) | have HP2 := Lib.hid ((HP1.out.alloc _).drew.step hb2)); obtain ⟨R, hRr⟩ := Int.eq_ofNat_of_zero_le hr2a; subst hRr; have hR : R < 2 := (by omega); have hRi : (R : Int) < 2 := (by omega); have h3a := two_at hR; have h3b := two_atL hR; (first | have hl3 : w2.cell? ⟨w1.heap.size, R, none⟩ = some (.int .i64 (pick2 R (-1) (M : Int))) := blk2R (show w2.heap[w1.heap.size]? = some (.cells #[.int .i64 (-1), .int .i64 (M : Int)] 2 (0, 0)) from (hb2.block w1.heap.size (by simp) (by simp; omega)).trans HLA.out) hR | skip); obtain ⟨q0, q1, q2, q3, q4, q5, q6, q7, -⟩ := blk8 HP2.out.k; have hg2 := HP2.out.l1; have hs2 := hb2.size; (first | simp only [World.size_alloc] at hs2 | skip); clear hb2)
    all_goals
      go_wp2_with fail
      first | go_ret | go_returns
      exact ⟨_, rfl, ⟨_, rfl⟩, by first | exact HP2.out.bx | exact (HP2.out.alloc _).bx⟩
  · have e1 : (r1 == 0) = false := by simpa using h1
    go_wp2_with fail
    go_at_call 93
    with_reducible refine (draw_any b A n c bs B ((M : Int)) _ HP1.out.inv (by omega)).mono ?_
    rintro e2 w2 ⟨u2, rfl, ⟨r2, rfl, hr2a, hr2b⟩, hb2⟩
    have HP2 := Lib.hid (HP1.out.step hb2)
    go_wp2_with fail
    first | go_ret | go_returns
    exact ⟨_, rfl, ⟨_, rfl⟩, HP2.out.bx⟩
/-- What DrawLayoutOf gives. -/
def LyD (w : World) (B : Nat) (u : Value) : Prop := ∃ (s : ByteArray) (kind p k gg col : Int) (v1 v2 : Value) (sz lv : List Int) (x y : Int), u = .tuple #[.agg #[.string s, .int .i64 kind, .int .i64 p, .int .i64 k, .int .i64 gg, v1, .int .i64 col, v2], .int .i64 x, .int .i64 y] ∧ (s.size ≤ 100 ∧ sz.length ≤ 100 ∧ lv.length ≤ 100) ∧ Own w B v1 sz ∧ Own w B v2 lv
set_option maxRecDepth 20000 in
set_option maxHeartbeats 8000000 in
theorem DrawLayoutOf_any (A : Option Addr) (n c : Nat) (bs : List Int) (B : Nat) (w0 : World) (hb : RB w0 B A n bs) (hB0 : B ≤ w0.heap.size) (hn : n ≤ 4096) :
    Calls Try.prog 18 #[.slice A n c] w0 fun e w' => ∃ u, e = .returned u ∧ LyD w' w0.heap.size u ∧ Below w0.heap.size w0 w' := by
  have HRB := Lib.hid hb
  clear hb
  go_enter Try.func18, Try.ntmps18
  go_wp2_with fail
  (go_at_call 55; go_call (l01From_any A n c bs _ B (HRB.out.below ((Below.refl B w0).alloc hB0 _)) (by first | (simp; done) | (simp; omega)) hn) as e w ⟨rfl, hs, hb0⟩)
  have hI : (srcP 106 (w0.heap.size + 1) A n c bs B).I w := ⟨by simpa using hs, (HRB.out.below ((Below.refl B w0).alloc hB0 _)).below (hb0.mono (by first | (simp; done) | (simp; omega))), by omega, hn⟩
  have HZ : Hid (w.heap[w0.heap.size]? = some (.cells #[.string ⟨#[]⟩, .int .i64 0, .int .i64 0, .int .i64 0, .int .i64 0, .slice none 0 0, .int .i64 0, .slice none 0 0] 34 (0, 0))) := Lib.hid (blk_below (heap_alloc_new _ _) hb0 (by simp))
  have HB0 : Hid (Below w0.heap.size w0 w) := Lib.hid (((Below.refl _ _).alloc (Nat.le_refl _) _).trans (hb0.mono (by first | (simp; done) | (simp; omega))))
  simp only [World.size_alloc]
  obtain ⟨b, hbd⟩ : ∃ b, w0.heap.size + 1 = b := ⟨_, rfl⟩
  rw [hbd] at hI ⊢
  have hbw := srcP_lt hI
  have HI := Lib.hid hI
  have h0b : w0.heap.size < b := by omega
  have h02 : w0.heap.size < w.heap.size := by omega
  have h0b1 : w0.heap.size < b + 1 := by omega
  clear hI hs hb0 hbd
  go_wp2_with fail
  go_at_call 56
  with_reducible refine (l13DrawAny_any b A n c bs B _ HI.out).mono ?_
  rintro e1 w1 ⟨u1, rfl, hfd, hb1⟩
  obtain ⟨s, kind, p, k, gg, col, v1, v2, sz, lv, rfl, hbd, ho1, ho2⟩ := hfd
  obtain ⟨A1, c1, rfl, -⟩ := ho1.shape
  obtain ⟨A2, c2, rfl, -⟩ := ho2.shape
  have HZ1 := Lib.hid ((hb1.block w0.heap.size h02 (by simp; omega)).trans HZ.out)
  have hs1 := hb1.size
  go_upto_region 3 with fail
  obtain ⟨g, hg⟩ : ∃ g, w1.heap.size = g := ⟨_, rfl⟩
  refine gen_worldF (P := fun W' => Code.wp _ _ _ _ W') (Q := fun W' => FbP (srcP 106 b A n c bs B) w g #[.string s, .int .i64 kind, .int .i64 p, .int .i64 k, .int .i64 gg, .slice A1 sz.length c1, .int .i64 col, .slice A2 lv.length c2] (.slice A1 sz.length c1) (.slice A2 lv.length c2) sz lv W' ∧ W'.heap[w0.heap.size]? = some (.cells #[.string ⟨#[]⟩, .int .i64 0, .int .i64 0, .int .i64 0, .int .i64 0, .slice none 0 0, .int .i64 0, .slice none 0 0] 34 (0, 0))) ?_ ?_
  · subst hg
    have hbx := hb1.alloc (by omega) (.cells #[.string s, .int .i64 kind, .int .i64 p, .int .i64 k, .int .i64 gg, .slice A1 sz.length c1, .int .i64 col, .slice A2 lv.length c2] 34)
    exact ⟨⟨hbx, hbx.inv HI.out, hbw, by omega, by simp, heap_alloc_new _ _, (ho1.more (by simp; omega)).keep ((Below.refl _ _).alloc (Nat.le_refl _) _), (ho2.more (by simp; omega)).keep ((Below.refl _ _).alloc (Nat.le_refl _) _)⟩, blk_alloc HZ1.out (by omega)⟩
  rintro W ⟨hp, hz⟩
  have HP := Lib.hid hp
  have HZW := Lib.hid hz
  have HD := Lib.hid hbd
  rw [hg]
  have HO1 := Lib.hid (fun (W : World) (h : FbP (srcP 106 b A n c bs B) w g #[.string s, .int .i64 kind, .int .i64 p, .int .i64 k, .int .i64 gg, .slice A1 sz.length c1, .int .i64 col, .slice A2 lv.length c2] (.slice A1 sz.length c1) (.slice A2 lv.length c2) sz lv W) => l13DrawSize_any b A n c bs B s kind p k gg col A1 A2 c1 c2 sz lv W h.inv h.o1 h.o2 HD.out.2.1)
  have HO2 := Lib.hid (fun (W : World) (h : FbP (srcP 106 b A n c bs B) w g #[.string s, .int .i64 kind, .int .i64 p, .int .i64 k, .int .i64 gg, .slice A1 sz.length c1, .int .i64 col, .slice A2 lv.length c2] (.slice A1 sz.length c1) (.slice A2 lv.length c2) sz lv W) => l13DrawLevel_any b A n c bs B s kind p k gg col A1 A2 c1 c2 sz lv W h.inv h.o1 h.o2 HD.out.2.2.1)
  clear hp hz hbd hb1 hs1 ho1 ho2 hg HZ1 HZ
  obtain ⟨y0, y1, y2, y3, y4, y5, y6, y7, -⟩ := blk8 HP.out.k
  have hgW := HP.out.l1
  go_wp2_with fail
  go_at_call 57
  with_reducible refine (HO1.out _ HP.out).mono ?_
  rintro e2 w2 ⟨u2, rfl, ⟨x, rfl⟩, hb2⟩
  have HP2 := Lib.hid (HP.out.step hb2)
  have HZ2 := Lib.hid ((hb2.block w0.heap.size (by have := HP.out.l0; omega) (by simp; omega)).trans HZW.out)
  clear hb2 y0 y1 y2 y3 y4 y5 y6 y7 hgW
  obtain ⟨y0, y1, y2, y3, y4, y5, y6, y7, -⟩ := blk8 HP2.out.k
  have hgW := HP2.out.l1
  have hgl := HP2.out.l0
  have hne : g ≠ w0.heap.size := by omega
  go_upto_region 4 with fail
  go_region_held3 (fun w' => w'.cell? ⟨g, 0, none⟩ = some (.string s) ∧ w'.cell? ⟨g, 1, none⟩ = some (.int .i64 kind) ∧ w'.cell? ⟨g, 2, none⟩ = some (.int .i64 p) ∧ w'.cell? ⟨g, 3, none⟩ = some (.int .i64 k) ∧ w'.cell? ⟨g, 4, none⟩ = some (.int .i64 gg) ∧ w'.cell? ⟨g, 5, none⟩ = some (.slice A1 sz.length c1) ∧ w'.cell? ⟨g, 6, none⟩ = some (.int .i64 col) ∧ w'.cell? ⟨g, 7, none⟩ = some (.slice A2 lv.length c2))
    (first | with_reducible exact ⟨x0, x1, x2, x3, x4, x5, x6, x7⟩ | with_reducible exact ⟨q0, q1, q2, q3, q4, q5, q6, q7⟩ | with_reducible exact ⟨y0, y1, y2, y3, y4, y5, y6, y7⟩ | go_keep)
    ((go_at_call 58
      with_reducible refine (HO2.out _ HP2.out.drew).mono ?_
      rintro e3 w3 ⟨u3, rfl, ⟨y, rfl⟩, hb3⟩
      have HP3 := Lib.hid (HP2.out.drew.step hb3)
      have HZ3 := Lib.hid ((hb3.block w0.heap.size (show w0.heap.size < w2.heap.size by omega) (by simp; omega)).trans HZ2.out)
      obtain ⟨q0, q1, q2, q3, q4, q5, q6, q7, -⟩ := blk8 HP3.out.k
      obtain ⟨z0, z1, z2, z3, z4, z5, z6, z7, zf⟩ := blk8 HZ3.out
      obtain ⟨s0, s1, s2, s3, s4, s5, s6, s7, -⟩ := blk8 (res8 HZ3.out (.string s) (.int .i64 kind) (.int .i64 p) (.int .i64 k) (.int .i64 gg) (.slice A1 sz.length c1) (.int .i64 col) (.slice A2 lv.length c2))
      have hfar := far8 (.string s) (.int .i64 kind) (.int .i64 p) (.int .i64 k) (.int .i64 gg) (.slice A1 sz.length c1) (.int .i64 col) (.slice A2 lv.length c2) HP3.out.k hne
      obtain ⟨x0, x1, x2, x3, x4, x5, x6, x7, -⟩ := blk8 hfar
      clear hb3))
  go_wp2_with fail
  (try simp only [Exit.inBlock, Exit.then]); refine bodyPost_ret (by simp [results, Try.results18, go_sem, s0, s1, s2, s3, s4, s5, s6, s7]; try rfl) rfl ?_
  have HBF : Hid (Below w0.heap.size w0 w3) := Lib.hid (HB0.out.trans ((HP3.out.bx.mono (show w0.heap.size ≤ w.heap.size by omega)).below (show w0.heap.size ≤ b by omega)))
  exact ⟨_, rfl, ⟨_, _, _, _, _, _, _, _, _, _, _, _, rfl, ⟨HD.out.1, HD.out.2.1, HD.out.2.2.1⟩, ((Own.setLt (Own.setLt (Own.setLt (Own.setLt (Own.setLt (Own.setLt (Own.setLt (Own.setLt HP3.out.o1 (p := ⟨w0.heap.size, 0, none⟩) h0b1 (.string s)) (p := ⟨w0.heap.size, 1, none⟩) h0b1 (.int .i64 kind)) (p := ⟨w0.heap.size, 2, none⟩) h0b1 (.int .i64 p)) (p := ⟨w0.heap.size, 3, none⟩) h0b1 (.int .i64 k)) (p := ⟨w0.heap.size, 4, none⟩) h0b1 (.int .i64 gg)) (p := ⟨w0.heap.size, 5, none⟩) h0b1 (.slice A1 sz.length c1)) (p := ⟨w0.heap.size, 6, none⟩) h0b1 (.int .i64 col)) (p := ⟨w0.heap.size, 7, none⟩) h0b1 (.slice A2 lv.length c2)).more (Nat.le_of_lt h0b1)), ((Own.setLt (Own.setLt (Own.setLt (Own.setLt (Own.setLt (Own.setLt (Own.setLt (Own.setLt HP3.out.o2 (p := ⟨w0.heap.size, 0, none⟩) h0b1 (.string s)) (p := ⟨w0.heap.size, 1, none⟩) h0b1 (.int .i64 kind)) (p := ⟨w0.heap.size, 2, none⟩) h0b1 (.int .i64 p)) (p := ⟨w0.heap.size, 3, none⟩) h0b1 (.int .i64 k)) (p := ⟨w0.heap.size, 4, none⟩) h0b1 (.int .i64 gg)) (p := ⟨w0.heap.size, 5, none⟩) h0b1 (.slice A1 sz.length c1)) (p := ⟨w0.heap.size, 6, none⟩) h0b1 (.int .i64 col)) (p := ⟨w0.heap.size, 7, none⟩) h0b1 (.slice A2 lv.length c2)).more (Nat.le_of_lt h0b1))⟩, (Below.setCell (p := ⟨w0.heap.size, 7, none⟩) (Below.setCell (p := ⟨w0.heap.size, 6, none⟩) (Below.setCell (p := ⟨w0.heap.size, 5, none⟩) (Below.setCell (p := ⟨w0.heap.size, 4, none⟩) (Below.setCell (p := ⟨w0.heap.size, 3, none⟩) (Below.setCell (p := ⟨w0.heap.size, 2, none⟩) (Below.setCell (p := ⟨w0.heap.size, 1, none⟩) (Below.setCell (p := ⟨w0.heap.size, 0, none⟩) HBF.out (Nat.le_refl _) (.string s)) (Nat.le_refl _) (.int .i64 kind)) (Nat.le_refl _) (.int .i64 p)) (Nat.le_refl _) (.int .i64 k)) (Nat.le_refl _) (.int .i64 gg)) (Nat.le_refl _) (.slice A1 sz.length c1)) (Nat.le_refl _) (.int .i64 col)) (Nat.le_refl _) (.slice A2 lv.length c2))⟩
end Go.Proofs.Ytbgcbjfimjfbpaa
namespace Go.Proofs.Ytbgcbjfimjfbpaa
set_option linter.unusedSimpArgs false
open Go.ChangeShapes Go.WideShapes Go.ChangeAt Go.RowKit

/-- A family in a box of its own, and all that lay before. -/
structure LfP (w : World) (g : Nat) (o : Obj) (s : ByteArray) (A1 : Option Addr) (n1 : Nat) (sz : List Int) (A2 : Option Addr) (n2 : Nat) (lv : List Int) (W : World) : Prop where
  lo : w.heap.size ≤ g
  lt : g < W.heap.size
  bl : Below w.heap.size w W
  k : W.heap[g]? = some o
  fo : FamOk W g s A1 n1 sz A2 n2 lv
theorem LfP.below {w : World} {g : Nat} {o : Obj} {s : ByteArray} {A1 : Option Addr} {n1 : Nat} {sz : List Int} {A2 : Option Addr} {n2 : Nat} {lv : List Int} {W W' : World} {B : Nat} (h : LfP w g o s A1 n1 sz A2 n2 lv W) (hb : Below B W W') (hB : g < B) (_hB2 : B ≤ W.heap.size) : LfP w g o s A1 n1 sz A2 n2 lv W' := by
  have hs := hb.size
  exact ⟨h.lo, by have := h.lt; omega, h.bl.trans (hb.mono (by have := h.lo; omega)), blk_below h.k hb hB, h.fo.below (hb.mono (by omega))⟩
theorem LfP.alloc {w : World} {g : Nat} {o : Obj} {s : ByteArray} {A1 : Option Addr} {n1 : Nat} {sz : List Int} {A2 : Option Addr} {n2 : Nat} {lv : List Int} {W : World} (h : LfP w g o s A1 n1 sz A2 n2 lv W) (u : Obj) : LfP w g o s A1 n1 sz A2 n2 lv (W.alloc u) :=
  h.below ((Below.refl _ _).alloc (Nat.le_refl _) _) h.lt (Nat.le_refl _)
theorem below_blurL {B : Nat} {w W : World} (h : Below B w W) (hB : B ≤ W.heap.size) (z : Blur W) : Below B w (blur z) := h.trans (z.below.mono hB)
theorem lo_true {fam has lev lay : Bool} (h : loB fam has lev lay = true) : fam = true ∧ has = true ∧ lev = true ∧ lay = true := by
  cases fam <;> cases has <;> cases lev <;> cases lay <;> simp_all [loB]
set_option maxRecDepth 20000 in
set_option maxHeartbeats 8000000 in
theorem lawFnLayouts (A : Option Addr) (n c : Nat) (bs : List Int) (w : World) (hr : RB w w.heap.size A n bs) :
    Calls Try.prog 4 #[.slice A n c] w fun e' w' => e' = .returned (.bool true) ∧ Below w.heap.size w w' := by
  have HR := Lib.hid hr
  clear hr
  by_cases hbig : 4096 < n
  · have hbd : decide (4096 < n) = true := decide_eq_true hbig
    go_enter Try.func4, Try.ntmps4
    go_wp2_with (go_at_call 17; go_call (big_any _ _ _ _) as e0 w0 ⟨rfl, hb0⟩; obtain ⟨hc0, hf0⟩ := bcell hb0; have hB0 : Below w.heap.size w w0 := (below_then (by first | (go_grown; done) | (repeat (first | (with_reducible assumption) | (with_reducible exact Below.refl _ _) | (with_reducible refine below_drewN' ?_ _) | (with_reducible refine Below.drew ?_) | ((with_reducible refine Below.alloc ?_ ?_ _); rotate_left; focus (first | (simp; done) | (simp; omega) | omega)) | ((with_reducible refine Below.setCell ?_ ?_ _); rotate_left; focus (first | (simp; done) | (simp; omega) | omega))))) (by first | omega | (simp; done) | (simp; omega)) hb0))
    go_ret
    exact ⟨rfl, by (repeat (first | (with_reducible assumption) | (with_reducible exact Below.refl _ _) | (with_reducible refine below_drewN' ?_ _) | (with_reducible refine Below.drew ?_) | ((with_reducible refine Below.alloc ?_ ?_ _); rotate_left; focus (first | (simp; done) | (simp; omega) | omega)) | ((with_reducible refine Below.setCell ?_ ?_ _); rotate_left; focus (first | (simp; done) | (simp; omega) | omega))))⟩
  have hbd : decide (4096 < n) = false := decide_eq_false hbig
  have HD := Lib.hid (fun (w' : World) (hb : Below w.heap.size w w') => DrawLayoutOf_any A n c bs w.heap.size w' (HR.out.below hb) hb.size (by omega))
  go_enter Try.func4, Try.ntmps4
  go_wp2_with first | (go_at_call 17; go_call (big_any _ _ _ _) as e0 w0 ⟨rfl, hb0⟩; obtain ⟨hc0, hf0⟩ := bcell hb0; have hB0 : Below w.heap.size w w0 := (below_then (by first | (go_grown; done) | (repeat (first | (with_reducible assumption) | (with_reducible exact Below.refl _ _) | (with_reducible refine below_drewN' ?_ _) | (with_reducible refine Below.drew ?_) | ((with_reducible refine Below.alloc ?_ ?_ _); rotate_left; focus (first | (simp; done) | (simp; omega) | omega)) | ((with_reducible refine Below.setCell ?_ ?_ _); rotate_left; focus (first | (simp; done) | (simp; omega) | omega))))) (by first | omega | (simp; done) | (simp; omega)) hb0))
  have hw0 := hB0.size
  (go_at_call 18; go_call (HD.out _ hB0) as e1 w1 ⟨u1, rfl, ⟨s, kind, p, k, g, col, v1, v2, sz, lv, size, level, rfl, hsz, ho1, ho2⟩, hb1⟩; obtain ⟨hc1, hf1⟩ := bcell hb1; have hB1 : Below w.heap.size w w1 := (below_then (by first | (go_grown; done) | (repeat (first | (with_reducible assumption) | (with_reducible exact Below.refl _ _) | (with_reducible refine below_drewN' ?_ _) | (with_reducible refine Below.drew ?_) | ((with_reducible refine Below.alloc ?_ ?_ _); rotate_left; focus (first | (simp; done) | (simp; omega) | omega)) | ((with_reducible refine Below.setCell ?_ ?_ _); rotate_left; focus (first | (simp; done) | (simp; omega) | omega))))) (by first | omega | (simp; done) | (simp; omega)) hb1))
  obtain ⟨A1, c1, rfl, hr1⟩ := ho1.shape
  obtain ⟨A2, c2, rfl, hr2⟩ := ho2.shape
  obtain ⟨n1, hn1⟩ : ∃ m, sz.length = m := ⟨_, rfl⟩
  obtain ⟨n2, hn2⟩ : ∃ m, lv.length = m := ⟨_, rfl⟩
  rw [hn1, hn2] at hsz
  rw [hn1] at hr1
  rw [hn2] at hr2
  rw [hn1, hn2]
  have HFO : Hid (FamOk w1 w1.heap.size s A1 n1 sz A2 n2 lv) := Lib.hid ⟨by omega, hr1, hr2, by omega, by omega⟩
  have HB1 := Lib.hid hB1
  clear ho1 ho2 hn1 hn2 hb0 hB0 hc0 hf0 hb1 hB1 hc1 hf1 hr1 hr2 hsz HD HR
  go_upto_region 4 with fail
  obtain ⟨g1, hg1⟩ : ∃ x, w1.heap.size = x := ⟨_, rfl⟩
  refine gen_worldF (P := fun W' => Code.wp _ _ _ _ W') (Q := fun W' => LfP w g1 (.cells #[.string s, .int .i64 kind, .int .i64 p, .int .i64 k, .int .i64 g, .slice A1 n1 c1, .int .i64 col, .slice A2 n2 c2] 34 (0, 0)) s A1 n1 sz A2 n2 lv W') ?_ ?_
  · subst hg1
    exact ⟨HB1.out.size, by simp, HB1.out.alloc HB1.out.size _, heap_alloc_new _ _, HFO.out.alloc (Nat.le_refl _) _⟩
  intro w2 hp2
  have HP2 := Lib.hid hp2
  rw [hg1]
  clear hp2 HFO HB1 hg1
  have HL1 := Lib.hid (fun (W : World) (h : LfP w g1 (.cells #[.string s, .int .i64 kind, .int .i64 p, .int .i64 k, .int .i64 g, .slice A1 n1 c1, .int .i64 col, .slice A2 n2 c2] 34 (0, 0)) s A1 n1 sz A2 n2 lv W) => LayoutOf_any s kind p k g col A1 A2 n1 c1 n2 c2 sz lv size level W g1 h.fo (Nat.le_of_lt h.lt))
  have HL2 := Lib.hid (fun (W : World) (h : LfP w g1 (.cells #[.string s, .int .i64 kind, .int .i64 p, .int .i64 k, .int .i64 g, .slice A1 n1 c1, .int .i64 col, .slice A2 n2 c2] 34 (0, 0)) s A1 n1 sz A2 n2 lv W) => sLayoutOf_any s kind p k g col A1 A2 n1 c1 n2 c2 sz lv size level W g1 h.fo (Nat.le_of_lt h.lt))
  have HI1 := Lib.hid (fun (W : World) (h : LfP w g1 (.cells #[.string s, .int .i64 kind, .int .i64 p, .int .i64 k, .int .i64 g, .slice A1 n1 c1, .int .i64 col, .slice A2 n2 c2] 34 (0, 0)) s A1 n1 sz A2 n2 lv W) => IsFamily_any s kind p k g col A1 A2 n1 c1 n2 c2 sz lv W g1 h.fo (Nat.le_of_lt h.lt))
  have HI2 := Lib.hid (fun (W : World) (h : LfP w g1 (.cells #[.string s, .int .i64 kind, .int .i64 p, .int .i64 k, .int .i64 g, .slice A1 n1 c1, .int .i64 col, .slice A2 n2 c2] 34 (0, 0)) s A1 n1 sz A2 n2 lv W) => sIsFamily_any s kind p k g col A1 A2 n1 c1 n2 c2 sz lv W g1 h.fo (Nat.le_of_lt h.lt))
  have HE := Lib.hid (fun (W : World) (h : LfP w g1 (.cells #[.string s, .int .i64 kind, .int .i64 p, .int .i64 k, .int .i64 g, .slice A1 n1 c1, .int .i64 col, .slice A2 n2 c2] 34 (0, 0)) s A1 n1 sz A2 n2 lv W) => ElementCount_any s kind p k g col A1 A2 n1 c1 n2 c2 sz lv size W g1 h.fo (Nat.le_of_lt h.lt))
  have HRO := Lib.hid (fun (W : World) (h : LfP w g1 (.cells #[.string s, .int .i64 kind, .int .i64 p, .int .i64 k, .int .i64 g, .slice A1 n1 c1, .int .i64 col, .slice A2 n2 c2] 34 (0, 0)) s A1 n1 sz A2 n2 lv W) => RoomOf_any s kind p k g col A1 A2 n1 c1 n2 c2 sz lv size level W g1 h.fo (Nat.le_of_lt h.lt))
  have HER := Lib.hid (fun (W : World) (h : LfP w g1 (.cells #[.string s, .int .i64 kind, .int .i64 p, .int .i64 k, .int .i64 g, .slice A1 n1 c1, .int .i64 col, .slice A2 n2 c2] 34 (0, 0)) s A1 n1 sz A2 n2 lv W) => ErrorRoom_any s kind p k g col A1 A2 n1 c1 n2 c2 sz lv size level W g1 h.fo (Nat.le_of_lt h.lt))
  have hvd : layDat kind p k col size (nth lv level.toNat) = ((elN kind p k col size : Nat) : Int) - ((layCnt kind p k col size * layChk kind p k col size (nth lv level.toNat) : Nat) : Int) := rfl
  have hlo : layOf kind p k g col size (nth lv level.toNat) = layB p k g (layDat kind p k col size (nth lv level.toNat)) ((layChk kind p k col size (nth lv level.toNat) : Nat) : Int) ((layCnt kind p k col size : Nat) : Int) := rfl
  have HIL := Lib.hid (fun w => IsLayout_any p k g (layDat kind p k col size (nth lv level.toNat)) ((layChk kind p k col size (nth lv level.toNat) : Nat) : Int) ((layCnt kind p k col size : Nat) : Int) w)
  rw [← hlo] at HIL
  have HLO := Lib.hid hlo
  have HVD := Lib.hid hvd
  clear hlo hvd
  generalize layDat kind p k col size (nth lv level.toNat) = VD at *
  generalize layChk kind p k col size (nth lv level.toNat) = VH at *
  generalize layCnt kind p k col size = VC at *
  generalize elN kind p k col size = VE at *
  generalize layOf kind p k g col size (nth lv level.toNat) = LB at *
  generalize famB s kind p k g col n1 sz n2 lv = FB at *
  generalize hasB size sz = HB at *
  generalize inR level 0 ((n2 : Int) - 1) = IB at *
  obtain ⟨CC, hCC⟩ : ∃ x, loC FB HB IB LB = x := ⟨_, rfl⟩
  have HCC := Lib.hid hCC
  rw [hCC] at HL1 HL2 HRO HER
  clear hCC
  cases hOK : loB FB HB IB LB
  · rw [hOK] at HL1 HL2
    have HOK := Lib.hid hOK
    simp only [loI, cond_false] at HL1 HL2
    clear hOK HRO HER HE HIL
    obtain ⟨y0, y1, y2, y3, y4, y5, y6, y7, -⟩ := blk8 HP2.out.k
    have hz2 := HP2.out.lt
    go_wp2_with fail
    go_at_call 14
    with_reducible refine (HL1.out _ HP2.out).mono ?_
    rintro e3 w3 ⟨rfl, hb3⟩
    have HP3 := Lib.hid (HP2.out.below hb3 hz2 (Nat.le_refl _))
    clear hb3 y0 y1 y2 y3 y4 y5 y6 y7
    have hz3 := HP3.out.lt
    go_upto_region 5 with fail
    obtain ⟨g2, hg2⟩ : ∃ x, w3.heap.size = x := ⟨_, rfl⟩
    have h12 : g1 < g2 := by omega
    refine gen_worldF (P := fun W' => Code.wp _ _ _ _ W') (Q := fun W' => LfP w g1 (.cells #[.string s, .int .i64 kind, .int .i64 p, .int .i64 k, .int .i64 g, .slice A1 n1 c1, .int .i64 col, .slice A2 n2 c2] 34 (0, 0)) s A1 n1 sz A2 n2 lv W' ∧ W'.heap[g2]? = some (.cells #[.int .i64 0, .int .i64 0, .int .i64 0, .int .i64 0, .int .i64 0, .int .i64 0] 30 (0, 0))) (by exact ⟨HP3.out.alloc _, by rw [← hg2]; exact heap_alloc_new _ _⟩) ?_
    rintro w4 ⟨hp4, hk4⟩
    have HP4 := Lib.hid hp4
    have HK4 := Lib.hid hk4
    rw [hg2]
    clear hp4 hk4 hg2 HP3 hz3 HP2 hz2
    obtain ⟨y0, y1, y2, y3, y4, y5, y6, y7, -⟩ := blk8 HP4.out.k
    have hz4 := HP4.out.lt
    have hk4 := lt_of_block HK4.out
    go_wp2_with fail
    go_at_call 12
    with_reducible refine (HL2.out _ HP4.out).mono ?_
    rintro e5 w5 ⟨rfl, hb5⟩
    have HP5 := Lib.hid (HP4.out.below hb5 hz4 (Nat.le_refl _))
    have HK5 := Lib.hid (blk_below HK4.out hb5 hk4)
    clear hb5 y0 y1 y2 y3 y4 y5 y6 y7
    have hz5 := HP5.out.lt
    have hk5 := lt_of_block HK5.out
    go_upto_region 6 with fail
    obtain ⟨g3, hg3⟩ : ∃ x, w5.heap.size = x := ⟨_, rfl⟩
    have h23 : g2 < g3 := by omega
    refine gen_worldF (P := fun W' => Code.wp _ _ _ _ W') (Q := fun W' => LfP w g1 (.cells #[.string s, .int .i64 kind, .int .i64 p, .int .i64 k, .int .i64 g, .slice A1 n1 c1, .int .i64 col, .slice A2 n2 c2] 34 (0, 0)) s A1 n1 sz A2 n2 lv W' ∧ W'.heap[g2]? = some (.cells #[.int .i64 0, .int .i64 0, .int .i64 0, .int .i64 0, .int .i64 0, .int .i64 0] 30 (0, 0)) ∧ W'.heap[g3]? = some (.cells #[.int .i64 0, .int .i64 0, .int .i64 0, .int .i64 0, .int .i64 0, .int .i64 0] 30 (0, 0))) (by exact ⟨HP5.out.alloc _, blk_alloc HK5.out hk5, by rw [← hg3]; exact heap_alloc_new _ _⟩) ?_
    rintro w6 ⟨hp6, hk6, hl6⟩
    have HP6 := Lib.hid hp6
    have HK6 := Lib.hid hk6
    rw [hg3]
    clear hp6 hg3 HP5 hz5 HP4 hz4 HK4 HK5 hk4 hk5
    obtain ⟨y0, y1, y2, y3, y4, y5, y6, y7, -⟩ := blk8 HP6.out.k
    obtain ⟨x0, x1, x2, x3, x4, x5, -⟩ := blk6 hk6
    obtain ⟨z0, z1, z2, z3, z4, z5, -⟩ := blk6 hl6
    have hz6 := HP6.out.lt
    have hk6' := lt_of_block hk6
    have hl6' := lt_of_block hl6
    have hc1 : (CC != CC) = false := by simp
    have hc2 : (FB != FB) = false := by simp
    clear hk6 hl6
    refine wp_region_qat [] 15 [] (by kernel_rfl) (by kernel_rfl) ?_
    intro hbc
    simp only [List.take_succ_cons, List.take_zero, List.drop_succ_cons, List.drop_zero]
    repeat (first
      | refine wpQ_pass rfl ?_
      | (refine wpQ_step rfl (fun K hK => ?_)
         go_simp
         first
           | (refine hK _ ?_; clear hK K)
           | (apply Exists.intro
              refine ⟨fun z => ?_, ?_⟩
              focus (first | (go_at_call 19; exact HI1.out _ (HP6.out.below (below_blurL (Below.refl _ _) (Nat.le_refl _) _) hz6 (Nat.le_refl _))) | (go_at_call 20; exact HI2.out _ (HP6.out.below (below_blurL (Below.refl _ _) (Nat.le_refl _) _) hz6 (Nat.le_refl _))))
              refine hK _ ?_
              clear hK K)))
    refine wpQ_nil ⟨?_, ?_⟩
    · exact rfl
    intro  w7 hb7 hF7
    clear hbc
    obtain ⟨hc7, hf7⟩ := bcell hb7
    clear hF7
    try simp only [Act.put, List.setIfInBounds_toArray, List.set_cons_succ, List.set_cons_zero]
    have HP7 := Lib.hid (HP6.out.below hb7 hz6 (Nat.le_refl _))
    have HK7 := Lib.hid (blk_below HK6.out hb7 hk6')
    clear hb7 hc7 hf7 y0 y1 y2 y3 y4 y5 y6 y7 x0 x1 x2 x3 x4 x5 z0 z1 z2 z3 z4 z5 HP6 HK6 hc1 hc2 hz6 hk6' hl6'
    have hC : (CC != 0) = true := by
      have := loC_no HOK.out
      rw [HCC.out] at this
      simp; omega
    go_wp2_with fail
    go_ret
    exact ⟨rfl, HP7.out.bl⟩
  · rw [hOK] at HL1 HL2 HRO HER
    obtain ⟨f1, f2, f3, f4⟩ := lo_true hOK
    have hc0 : CC = 0 := by rw [← HCC.out, f1, f2, f3, f4]; rfl
    subst hc0
    have hly := HLO.out
    rw [f4] at hly
    obtain ⟨D, C, H, hD, hC, hH, hb1, hb2, hb3, hb4, hb5, hb6, hb7, hfl⟩ := layB_true hly.symm
    have hH' : VH = H := by omega
    have hC' : VC = C := by omega
    have hvd := HVD.out
    subst hD hH' hC'
    have HFW := Lib.hid (fun w => FieldWidth_any p k g w hfl)
    have hwb := widV_bd hfl
    rw [f1, f2] at HE
    rw [f4] at HIL
    simp only [loI, cond_true] at HL1 HL2 HRO HER
    simp only [ecV, ecC, cond_true, Bool.and_true] at HE
    generalize widV (fsize p k) = WD at *
    have hprod := mul_bd (show (0 : Int) ≤ D by omega) (show (D : Int) ≤ 1500 by omega) hwb.1 hwb.2
    have hm1 : IntKind.i64.wrap ((D : Int) * WD) = (D : Int) * WD := wr64 (by omega)
    have hcm : ((VC * VH : Nat) : Int) = (VC : Int) * (VH : Int) := by simp
    have hm2 : IntKind.i64.wrap ((VC : Int) * (VH : Int)) = (VC : Int) * (VH : Int) := by rw [← hcm]; exact wr64 (by omega)
    have hm3 : IntKind.i64.wrap (VE : Int) = (VE : Int) := wr64 (by omega)
    obtain ⟨Q, hQ⟩ : ∃ Q, VH / 2 = Q := ⟨_, rfl⟩
    rw [hQ] at HER
    have HQ := Lib.hid hQ
    clear hQ
    have HM := Lib.hid (And.intro hprod (And.intro hcm hvd))
    clear hOK hly hfl hvd hprod hcm HVD HLO HCC hH hC
    obtain ⟨y0, y1, y2, y3, y4, y5, y6, y7, -⟩ := blk8 HP2.out.k
    have hz2 := HP2.out.lt
    go_wp2_with fail
    go_at_call 14
    with_reducible refine (HL1.out _ HP2.out).mono ?_
    rintro e3 w3 ⟨rfl, hb3⟩
    have HP3 := Lib.hid (HP2.out.below hb3 hz2 (Nat.le_refl _))
    clear hb3 y0 y1 y2 y3 y4 y5 y6 y7
    have hz3 := HP3.out.lt
    go_upto_region 5 with fail
    obtain ⟨g2, hg2⟩ : ∃ x, w3.heap.size = x := ⟨_, rfl⟩
    have h12 : g1 < g2 := by omega
    refine gen_worldF (P := fun W' => Code.wp _ _ _ _ W') (Q := fun W' => LfP w g1 (.cells #[.string s, .int .i64 kind, .int .i64 p, .int .i64 k, .int .i64 g, .slice A1 n1 c1, .int .i64 col, .slice A2 n2 c2] 34 (0, 0)) s A1 n1 sz A2 n2 lv W' ∧ W'.heap[g2]? = some (.cells #[.int .i64 p, .int .i64 k, .int .i64 g, .int .i64 (D : Int), .int .i64 (VH : Int), .int .i64 (VC : Int)] 30 (0, 0))) (by exact ⟨HP3.out.alloc _, by rw [← hg2]; exact heap_alloc_new _ _⟩) ?_
    rintro w4 ⟨hp4, hk4⟩
    have HP4 := Lib.hid hp4
    have HK4 := Lib.hid hk4
    rw [hg2]
    clear hp4 hk4 hg2 HP3 hz3 HP2 hz2
    obtain ⟨y0, y1, y2, y3, y4, y5, y6, y7, -⟩ := blk8 HP4.out.k
    have hz4 := HP4.out.lt
    have hk4 := lt_of_block HK4.out
    go_wp2_with fail
    go_at_call 12
    with_reducible refine (HL2.out _ HP4.out).mono ?_
    rintro e5 w5 ⟨rfl, hb5⟩
    have HP5 := Lib.hid (HP4.out.below hb5 hz4 (Nat.le_refl _))
    have HK5 := Lib.hid (blk_below HK4.out hb5 hk4)
    clear hb5 y0 y1 y2 y3 y4 y5 y6 y7
    have hz5 := HP5.out.lt
    have hk5 := lt_of_block HK5.out
    go_upto_region 6 with fail
    obtain ⟨g3, hg3⟩ : ∃ x, w5.heap.size = x := ⟨_, rfl⟩
    have h23 : g2 < g3 := by omega
    refine gen_worldF (P := fun W' => Code.wp _ _ _ _ W') (Q := fun W' => LfP w g1 (.cells #[.string s, .int .i64 kind, .int .i64 p, .int .i64 k, .int .i64 g, .slice A1 n1 c1, .int .i64 col, .slice A2 n2 c2] 34 (0, 0)) s A1 n1 sz A2 n2 lv W' ∧ W'.heap[g2]? = some (.cells #[.int .i64 p, .int .i64 k, .int .i64 g, .int .i64 (D : Int), .int .i64 (VH : Int), .int .i64 (VC : Int)] 30 (0, 0)) ∧ W'.heap[g3]? = some (.cells #[.int .i64 p, .int .i64 k, .int .i64 g, .int .i64 (D : Int), .int .i64 (VH : Int), .int .i64 (VC : Int)] 30 (0, 0))) (by exact ⟨HP5.out.alloc _, blk_alloc HK5.out hk5, by rw [← hg3]; exact heap_alloc_new _ _⟩) ?_
    rintro w6 ⟨hp6, hk6, hl6⟩
    have HP6 := Lib.hid hp6
    have HK6 := Lib.hid hk6
    rw [hg3]
    clear hp6 hg3 HP5 hz5 HP4 hz4 HK4 HK5 hk4 hk5
    obtain ⟨y0, y1, y2, y3, y4, y5, y6, y7, -⟩ := blk8 HP6.out.k
    obtain ⟨x0, x1, x2, x3, x4, x5, -⟩ := blk6 hk6
    obtain ⟨z0, z1, z2, z3, z4, z5, -⟩ := blk6 hl6
    have hz6 := HP6.out.lt
    have hk6' := lt_of_block hk6
    have hl6' := lt_of_block hl6
    have hc1 : (0 != 0) = false := by simp
    have hc2 : (FB != FB) = false := by simp
    clear hk6 hl6
    refine wp_region_qat [] 15 [] (by kernel_rfl) (by kernel_rfl) ?_
    intro hbc
    simp only [List.take_succ_cons, List.take_zero, List.drop_succ_cons, List.drop_zero]
    repeat (first
      | refine wpQ_pass rfl ?_
      | (refine wpQ_step rfl (fun K hK => ?_)
         go_simp
         first
           | (refine hK _ ?_; clear hK K)
           | (apply Exists.intro
              refine ⟨fun z => ?_, ?_⟩
              focus (first | (go_at_call 19; exact HI1.out _ (HP6.out.below (below_blurL (Below.refl _ _) (Nat.le_refl _) _) hz6 (Nat.le_refl _))) | (go_at_call 20; exact HI2.out _ (HP6.out.below (below_blurL (Below.refl _ _) (Nat.le_refl _) _) hz6 (Nat.le_refl _))))
              refine hK _ ?_
              clear hK K)))
    refine wpQ_nil ⟨?_, ?_⟩
    · exact rfl
    intro  w7 hb7 hF7
    clear hbc
    obtain ⟨hc7, hf7⟩ := bcell hb7
    clear hF7
    try simp only [Act.put, List.setIfInBounds_toArray, List.set_cons_succ, List.set_cons_zero]
    have HP7 := Lib.hid (HP6.out.below hb7 hz6 (Nat.le_refl _))
    have HK7 := Lib.hid (blk_below HK6.out hb7 hk6')
    clear hb7 hc7 hf7 y0 y1 y2 y3 y4 y5 y6 y7 x0 x1 x2 x3 x4 x5 z0 z1 z2 z3 z4 z5 HP6 HK6 hc1 hc2 hz6 hk6' hl6'
    obtain ⟨y0, y1, y2, y3, y4, y5, y6, y7, -⟩ := blk8 HP7.out.k
    have hz7 := HP7.out.lt
    have hk7 := lt_of_block HK7.out
    go_wp2_with fail
    go_at_call 21
    with_reducible refine (HE.out _ HP7.out).mono ?_
    rintro e8 w8 ⟨rfl, hb8⟩
    have HP8 := Lib.hid (HP7.out.below hb8 hz7 (Nat.le_refl _))
    have HK8 := Lib.hid (blk_below HK7.out hb8 hk7)
    clear hb8 y0 y1 y2 y3 y4 y5 y6 y7 HP7 HK7 hz7 hk7
    obtain ⟨y0, y1, y2, y3, y4, y5, y6, y7, -⟩ := blk8 HP8.out.k
    have hz8 := HP8.out.lt
    have hk8 := lt_of_block HK8.out
    go_wp2_with fail
    go_at_call 22
    with_reducible refine (HRO.out _ HP8.out).mono ?_
    rintro e9 w9 ⟨rfl, hb9⟩
    have HP9 := Lib.hid (HP8.out.below hb9 hz8 (Nat.le_refl _))
    have HK9 := Lib.hid (blk_below HK8.out hb9 hk8)
    clear hb9 y0 y1 y2 y3 y4 y5 y6 y7 HP8 HK8 hz8 hk8
    obtain ⟨y0, y1, y2, y3, y4, y5, y6, y7, -⟩ := blk8 HP9.out.k
    have hz9 := HP9.out.lt
    have hk9 := lt_of_block HK9.out
    go_wp2_with fail
    go_at_call 23
    with_reducible refine (HER.out _ HP9.out).mono ?_
    rintro e10 w10 ⟨rfl, hb10⟩
    have HPA := Lib.hid (HP9.out.below hb10 hz9 (Nat.le_refl _))
    have HKA := Lib.hid (blk_below HK9.out hb10 hk9)
    clear hb10 y0 y1 y2 y3 y4 y5 y6 y7 HP9 HK9 hz9 hk9
    obtain ⟨y0, y1, y2, y3, y4, y5, y6, y7, -⟩ := blk8 HPA.out.k
    obtain ⟨x0, x1, x2, x3, x4, x5, -⟩ := blk6 HKA.out
    have hzA := HPA.out.lt
    have hkA := lt_of_block HKA.out
    have t1 : ((VE : Int) == (VE : Int)) = true := by simp
    have t2 : ((D : Int) * WD == (D : Int) * WD) = true := by simp
    have t3 : ((Q : Int) == (Q : Int)) = true := by simp
    have t4 : ((D : Int) + (VC : Int) * (VH : Int)) = (VE : Int) := by have := HM.out; omega
    have t5 : (VH : Int) / 2 = (Q : Int) := by have := HQ.out; omega
    have t7 : IntKind.i64.wrap (Q : Int) = (Q : Int) := wr64 (by have := HQ.out; omega)
    have t6 : (VH : Int).tdiv 2 = (Q : Int) := by rw [Int.tdiv_eq_ediv_of_nonneg (by omega)]; exact t5
    go_upto_region 13 with fail
    refine wp_region_qat [] 44 [] (by kernel_rfl) (by kernel_rfl) ?_
    intro hbc
    simp only [List.take_succ_cons, List.take_zero, List.drop_succ_cons, List.drop_zero]
    repeat (first
      | refine wpQ_pass rfl ?_
      | (refine wpQ_step rfl (fun K hK => ?_)
         go_simp
         first
           | (refine hK _ ?_; clear hK K)
           | (apply Exists.intro
              refine ⟨fun z => ?_, ?_⟩
              focus (first | (go_at_call 24; exact HFW.out _) | (go_at_call 25; exact HIL.out _))
              refine hK _ ?_
              clear hK K)))
    refine wpQ_nil ⟨?_, ?_⟩
    · exact rfl
    intro  w11 hb11 hF11
    clear hbc
    obtain ⟨hc11, hf11⟩ := bcell hb11
    clear hF11
    try simp only [Act.put, List.setIfInBounds_toArray, List.set_cons_succ, List.set_cons_zero]
    have HPB := Lib.hid (HPA.out.below hb11 hzA (Nat.le_refl _))
    clear hb11 hc11 hf11 y0 y1 y2 y3 y4 y5 y6 y7 x0 x1 x2 x3 x4 x5
    go_wp2_with fail
    go_ret
    exact ⟨rfl, HPB.out.bl⟩
set_option maxRecDepth 100000 in
theorem lifted_FnLayouts (os : Os) (started : os.Started) (H : Type) (enc : TypeId × Value → H) :
    ReturnsInHanded {} Try.checked os 4 .any (Rows.fnLayoutsSpec.pre6 enc Try.prog Try.f4 Rows.fnLayoutsRow.domain false) (Rows.fnLayoutsSpec.post enc Try.prog Try.f4 false true false false) := by
  refine law_lifted (C := Try.checked) (tb := 4) own started (by kernel_rfl) Try.func4
    (ChangeSpec.witness6 (enc := enc) (C := Try.checked) false ⟨#[], #[.slice none 0 0], []⟩ 8 (by kernel_rfl) (by kernel_rfl) (by kernel_rfl) (by kernel_rfl))
    laidOut (by kernel_rfl) rfl rfl Try.underlying4 ?_ ?_
  · intro ds hd
    match ds, hd with
    | [e0], _ => rfl
  · intro W base args ds p hval hA hlt hsz
    have hval1 : ∀ (j : Nat) t v, Try.f4.params[j]? = some t → args[j]? = some v → Value.okWide Try.prog W .any base t v := hval
    have hA1 : DataW.TrodAll enc Try.prog W 0 (fun _ => true) true Try.f4.params.toList args.toList ds p := hA
    have hsz1 : (DataW.weightsEach Try.prog Try.f4.params.toList ds).all (· ≤ reachBytes) = true := hsz
    rw [Try.params4] at hval1 hA1 hsz1
    clear hval hA hsz
    obtain ⟨v0, d0, rfl, rfl, h0⟩ := trodAll_one hA1
    obtain ⟨A, n, c, bs, rfl, hr, _⟩ := arg_bytes Try.underlying39 Try.underlying5 (by kernel_rfl) (hval1 0 39 v0 rfl rfl) h0 (fun x hx => hlt x (by simp [hx]))
    exact lawFnLayouts A n c bs W hr
theorem holds_FnLayouts : Rows.FnLayoutsSaid :=
  OpenClaim.holds_of_wide 4 Try.f4 rfl rfl rfl rfl rfl rfl rfl ⟨rfl, rfl, rfl, rfl, rfl⟩ rfl rfl rfl rfl rfl (by kernel_rfl) Try.func4 (by kernel_rfl)
    (of_decide_eq_true (by kernel_rfl)) (by unfold Func.isWrapper; first | (rw [if_pos (by decide +kernel)]; kernel_rfl) | (rw [if_neg (by decide +kernel)]; exact ⟨rfl, rfl⟩))
    (fun os started H enc _ => lifted_FnLayouts os started H enc)

end Go.Proofs.Ytbgcbjfimjfbpaa
