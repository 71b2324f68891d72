/-
  What the laws of layouts draw: families, valid or not; sizes, levels; arguments of LayoutOf. Printed by gen/dlz.py.
-/
import Derived.Test.YtbgcbjfimjfbpaaMLa
namespace Go.Proofs.Ytbgcbjfimjfbpaa
set_option linter.unusedSimpArgs false
open Go.RowKit

/-- A family in a box of its own, its lists elsewhere, and what draws keep. -/
structure FaP (P : SP) (w : World) (g : Nat) (s : ByteArray) (kind p k gg col : Int) (v1 v2 : Value) (sz lv : List Int) (W : World) : Prop where
  fl : FlP P w g #[.string s, .int .i64 kind, .int .i64 p, .int .i64 k, .int .i64 gg, v1, .int .i64 col, v2] #[.string ⟨#[]⟩, .int .i64 0, .int .i64 0, .int .i64 0, .int .i64 0, .slice none 0 0, .int .i64 0, .slice none 0 0] 34 W
  o1 : Own W (w.heap.size + 1) v1 sz
  o2 : Own W (w.heap.size + 1) v2 lv
  n1 : ∀ j, v1.ownBlock = some j → j ≠ g
  n2 : ∀ j, v2.ownBlock = some j → j ≠ g
  bd : s.size ≤ 100 ∧ sz.length ≤ 100 ∧ lv.length ≤ 100 ∧ 0 ≤ kind ∧ kind ≤ 3
section
variable {P : SP} {w W W' : World} {g : Nat} {s s' : ByteArray} {kind p k gg col x y z : Int} {v1 v2 v : Value} {sz lv xs : List Int}
theorem FaP.step (h : FaP P w g s kind p k gg col v1 v2 sz lv W) (hb : BX P W.heap.size W W') : FaP P w g s kind p k gg col v1 v2 sz lv W' :=
  ⟨h.fl.step hb, h.o1.bx hb (by have := h.fl.lb; omega), h.o2.bx hb (by have := h.fl.lb; omega), h.n1, h.n2, h.bd⟩
theorem FaP.alloc (h : FaP P w g s kind p k gg col v1 v2 sz lv W) (o : Obj) : FaP P w g s kind p k gg col v1 v2 sz lv (W.alloc o) := h.step ((BX.refl _ _ _).alloc (Nat.le_refl _) o)
theorem FaP.drew (h : FaP P w g s kind p k gg col v1 v2 sz lv W) : FaP P w g s kind p k gg col v1 v2 sz lv W.drew := h.step (BX.refl _ _ _).drew
theorem FaP.below (h : FaP P w g s kind p k gg col v1 v2 sz lv W) (hb : Below W.heap.size W W') : FaP P w g s kind p k gg col v1 v2 sz lv W' := h.step (BX.of_below hb (by have := h.fl.lb; have := h.fl.l0; have := h.fl.l1; omega))
theorem FaP.set0 (h : FaP P w g s kind p k gg col v1 v2 sz lv W) (hs : s'.size ≤ 100) : FaP P w g s' kind p k gg col v1 v2 sz lv (W.setCell ⟨g, 0, none⟩ (.string s')) :=
  ⟨(h.fl.set 0 _).to rfl, h.o1.setFar h.n1 _, h.o2.setFar h.n2 _, h.n1, h.n2, hs, h.bd.2⟩
theorem FaP.set1 (h : FaP P w g s kind p k gg col v1 v2 sz lv W) (hx : 0 ≤ x ∧ x ≤ 3) : FaP P w g s x p k gg col v1 v2 sz lv (W.setCell ⟨g, 1, none⟩ (.int .i64 x)) :=
  ⟨(h.fl.set 1 _).to rfl, h.o1.setFar h.n1 _, h.o2.setFar h.n2 _, h.n1, h.n2, h.bd.1, h.bd.2.1, h.bd.2.2.1, hx⟩
theorem FaP.set234 (h : FaP P w g s kind p k gg col v1 v2 sz lv W) : FaP P w g s kind x y z col v1 v2 sz lv (((W.setCell ⟨g, 2, none⟩ (.int .i64 x)).setCell ⟨g, 3, none⟩ (.int .i64 y)).setCell ⟨g, 4, none⟩ (.int .i64 z)) :=
  ⟨(((h.fl.set 2 _).set 3 _).set 4 _).to rfl, ((h.o1.setFar h.n1 _).setFar h.n1 _).setFar h.n1 _, ((h.o2.setFar h.n2 _).setFar h.n2 _).setFar h.n2 _, h.n1, h.n2, h.bd⟩
theorem FaP.set6 (h : FaP P w g s kind p k gg col v1 v2 sz lv W) : FaP P w g s kind p k gg x v1 v2 sz lv (W.setCell ⟨g, 6, none⟩ (.int .i64 x)) :=
  ⟨(h.fl.set 6 _).to rfl, h.o1.setFar h.n1 _, h.o2.setFar h.n2 _, h.n1, h.n2, h.bd⟩
theorem FaP.set5 (h : FaP P w g s kind p k gg col v1 v2 sz lv W) (ho : Own W (w.heap.size + 1) v xs) (hn : ∀ j, v.ownBlock = some j → j ≠ g) (hl : xs.length ≤ 100) : FaP P w g s kind p k gg col v v2 xs lv (W.setCell ⟨g, 5, none⟩ v) :=
  ⟨(h.fl.set 5 _).to rfl, ho.setFar hn _, h.o2.setFar h.n2 _, hn, h.n2, h.bd.1, hl, h.bd.2.2⟩
theorem FaP.set7 (h : FaP P w g s kind p k gg col v1 v2 sz lv W) (ho : Own W (w.heap.size + 1) v xs) (hn : ∀ j, v.ownBlock = some j → j ≠ g) (hl : xs.length ≤ 100) : FaP P w g s kind p k gg col v1 v sz xs (W.setCell ⟨g, 7, none⟩ v) :=
  ⟨(h.fl.set 7 _).to rfl, h.o1.setFar h.n1 _, ho.setFar hn _, h.n1, hn, h.bd.1, h.bd.2.1, hl, h.bd.2.2.2⟩
end
/-- One of three numbers. -/
def pick3 (R : Nat) (x y z : Int) : Int := if R = 0 then x else if R = 1 then y else z
theorem three_at {R : Nat} (h : R < 3) (x y z : Int) : (#[Value.int .i64 x, Value.int .i64 y, Value.int .i64 z] : Array Value)[R]? = some (.int .i64 (pick3 R x y z)) := by
  rcases (show R = 0 ∨ R = 1 ∨ R = 2 by omega) with rfl | rfl | rfl <;> rfl
theorem three_atL {R : Nat} (hR : R < 3) : ∀ (x y z : Int) (h : R < [Value.int .i64 x, Value.int .i64 y, Value.int .i64 z].length), [Value.int .i64 x, Value.int .i64 y, Value.int .i64 z][R]'h = .int .i64 (pick3 R x y z) := by
  intro x y z h
  rcases (show R = 0 ∨ R = 1 ∨ R = 2 by omega) with rfl | rfl | rfl <;> rfl
theorem pick3_rg {R : Nat} {x y z : Int} (hx : 0 ≤ x ∧ x ≤ 3) (hy : 0 ≤ y ∧ y ≤ 3) (hz : 0 ≤ z ∧ z ≤ 3) : 0 ≤ pick3 R x y z ∧ pick3 R x y z ≤ 3 := by
  unfold pick3; split
  · exact hx
  · split
    · exact hy
    · exact hz
/-- Three numbers in a block. -/
theorem blk3R {w : World} {b t R : Nat} {x y z : Int} (h : w.heap[b]? = some (.cells #[.int .i64 x, .int .i64 y, .int .i64 z] t (0, 0))) (hR : R < 3) : w.cell? ⟨b, R, none⟩ = some (.int .i64 (pick3 R x y z)) := (blk_cell h R).trans (three_at hR x y z)

set_option maxRecDepth 20000 in
set_option maxHeartbeats 8000000 in
theorem l13DrawAny_any (b : Nat) (A : Option Addr) (n c : Nat) (bs : List Int) (B : Nat) (w : World) (hI : (srcP 106 b A n c bs B).I w) :
    Calls Try.prog 56 #[.pointer (some ⟨b, 0, none⟩)] w fun e w' => ∃ u, e = .returned u ∧ FamD w' w.heap.size u ∧ BX (srcP 106 b A n c bs B) w.heap.size w w' := by
  have hbw := srcP_lt hI
  have HI := Lib.hid hI
  clear hI
  go_enter Try.func56, Try.ntmps56
  go_wp2_with fail
  go_at_call 92
  with_reducible refine (l13Draw_any b A n c bs B _ (((BX.refl _ (b + 1) w).alloc (by omega) _).inv HI.out)).mono ?_
  rintro e1 w1 ⟨u1, rfl, hft, hb1⟩
  obtain ⟨s, kind, p, k, gg, col, v1, v2, sz, lv, rfl, hbd, ho1, ho2⟩ := hft
  simp only [World.size_alloc] at ho1 ho2
  obtain ⟨Aa, ca, rfl, -⟩ := ho1.shape
  obtain ⟨Ab, cb, rfl, -⟩ := ho2.shape
  go_upto_region 2 with fail
  obtain ⟨v1, hv1⟩ : ∃ v1, Value.slice Aa sz.length ca = v1 := ⟨_, rfl⟩
  obtain ⟨v2, hv2⟩ : ∃ v2, Value.slice Ab lv.length cb = v2 := ⟨_, rfl⟩
  obtain ⟨g, hg⟩ : ∃ g, w1.heap.size = g := ⟨_, rfl⟩
  refine gen_worldF (P := fun W' => Code.wp _ _ _ _ W') (Q := fun W' => FaP (srcP 106 b A n c bs B) w g s kind p k gg col v1 v2 sz lv W') ?_ ?_
  · subst hg
    have hs1 := hb1.size
    simp only [World.size_alloc] at hs1
    have hbx : BX (srcP 106 b A n c bs B) w.heap.size w (w1.alloc (.cells #[.string s, .int .i64 kind, .int .i64 p, .int .i64 k, .int .i64 gg, .slice Aa sz.length ca, .int .i64 col, .slice Ab lv.length cb] 34)) := (((BX.refl _ _ _).alloc (Nat.le_refl _) _).trans (hb1.mono (by simp))).alloc (by omega) _
    subst hv1 hv2
    exact ⟨⟨hbx, hbx.inv HI.out, hbw, by omega, by simp, blk_alloc ((hb1.block _ (by simp) (by simp; omega)).trans (heap_alloc_new _ _)) (by omega), heap_alloc_new _ _⟩, ho1.keep ((Below.refl _ _).alloc (Nat.le_refl _) _), ho2.keep ((Below.refl _ _).alloc (Nat.le_refl _) _), (fun j hj => by have := (World.ownsRow.lt ho1 j hj).2; omega), (fun j hj => by have := (World.ownsRow.lt ho2 j hj).2; omega), hbd⟩
  intro W hp
  have HP := Lib.hid hp
  rw [hg]
  clear hp hb1 hg HI ho1 ho2 hbd hv1 hv2
  go_wp2_with fail
  go_at_call 93
  with_reducible refine (draw_any b A n c bs B (24) _ HP.out.fl.inv (by omega)).mono ?_
  rintro e2 w2 ⟨u2, rfl, ⟨r2, rfl, hr2a, hr2b⟩, hb2⟩
  have HP2 := Lib.hid (HP.out.step hb2)
  clear hb2 HP
  have hbg : b < g := by have := HP2.out.fl.l0; omega
  rcases (show r2 = 0 ∨ r2 = 1 ∨ r2 = 2 ∨ r2 = 3 ∨ r2 = 4 ∨ r2 = 5 ∨ r2 = 6 ∨ 7 ≤ r2 by omega) with rfl | rfl | rfl | rfl | rfl | rfl | rfl | h7
  · go_wp2_with fail
    go_at_call 93
    with_reducible refine (draw_any b A n c bs B (4) _ (HP2.out.alloc _).fl.inv (by omega)).mono ?_
    rintro e3 w3 ⟨u3, rfl, ⟨r3, rfl, hr3a, hr3b⟩, hb3⟩
    have HP3 := Lib.hid ((HP2.out.alloc _).step hb3)
    have hl3 : w3.heap[w2.heap.size]? = some (.cells #[.string ⟨#[]⟩, .string ⟨#[110, 105, 110, 101]⟩, .string ⟨#[110, 105, 110, 101, 99, 104, 97, 114, 115]⟩, .string ⟨#[84, 105, 108, 101]⟩] 9 (0, 0)) := (hb3.block _ (by simp) (by have := HP2.out.fl.l1; have := HP2.out.fl.l0; simp; omega)).trans (heap_alloc_new _ _)
    obtain ⟨R, s', hRe, hR, hck, hsl⟩ : ∃ (R : Nat) (s' : ByteArray), r3 = R ∧ R < 4 ∧ w3.cell? ⟨w2.heap.size, R, none⟩ = some (.string s') ∧ s'.size ≤ 100 := by
      rcases (show r3 = 0 ∨ r3 = 1 ∨ r3 = 2 ∨ r3 = 3 by omega) with rfl | rfl | rfl | rfl
      · exact ⟨0, ⟨#[]⟩, rfl, by decide, (blk_cell hl3 0).trans rfl, by decide⟩
      · exact ⟨1, ⟨#[110, 105, 110, 101]⟩, rfl, by decide, (blk_cell hl3 1).trans rfl, by decide⟩
      · exact ⟨2, ⟨#[110, 105, 110, 101, 99, 104, 97, 114, 115]⟩, rfl, by decide, (blk_cell hl3 2).trans rfl, by decide⟩
      · exact ⟨3, ⟨#[84, 105, 108, 101]⟩, rfl, by decide, (blk_cell hl3 3).trans rfl, by decide⟩
    subst hRe
    have hRi : (R : Int) < 4 := by omega
    obtain ⟨y0, y1, y2, y3, y4, y5, y6, y7, yf⟩ := blk8 HP3.out.fl.k
    have hg3 := HP3.out.fl.l1
    have hs3 := hb3.size
    simp only [World.size_alloc] at hs3
    clear hb3 hl3
    go_upto_region 18 with fail
    refine gen_worldF (P := fun W' => Code.wp _ _ _ _ W') (Q := fun W' => FaP (srcP 106 b A n c bs B) w g s' kind p k gg col v1 v2 sz lv W') (HP3.out.set0 hsl) ?_
    rintro W' hp
    have HP := Lib.hid hp
    clear hp
    clear y0 y1 y2 y3 y4 y5 y6 y7 yf hck
    obtain ⟨AF1, cF1, eF1, -⟩ := HP.out.o1.shape
    obtain ⟨AF2, cF2, eF2, -⟩ := HP.out.o2.shape
    subst eF1 eF2
    obtain ⟨y0, y1, y2, y3, y4, y5, y6, y7, -⟩ := blk8 HP.out.fl.k
    obtain ⟨z0, z1, z2, z3, z4, z5, z6, z7, zf⟩ := blk8 HP.out.fl.z
    obtain ⟨s0, s1, s2, s3, s4, s5, s6, s7, -⟩ := blk8 (res8 HP.out.fl.z (.string s') (.int .i64 kind) (.int .i64 p) (.int .i64 k) (.int .i64 gg) (.slice AF1 sz.length cF1) (.int .i64 col) (.slice AF2 lv.length cF2))
    have hl0 := HP.out.fl.l0
    have hl1 := HP.out.fl.l1
    have hlb := HP.out.fl.lb
    go_wp2_with fail
    (try simp only [Exit.inBlock, Exit.then]); refine bodyPost_ret (by simp [results, Try.results56, go_sem, s0, s1, s2, s3, s4, s5, s6, s7]; try rfl) rfl ?_
    exact ⟨_, rfl, ⟨_, _, _, _, _, _, _, _, _, _, rfl, HP.out.bd, ((Own.setLt (Own.setLt (Own.setLt (Own.setLt (Own.setLt (Own.setLt (Own.setLt (Own.setLt HP.out.o1 (p := ⟨w.heap.size, 0, none⟩) (Nat.lt_succ_self _) _) (p := ⟨w.heap.size, 1, none⟩) (Nat.lt_succ_self _) _) (p := ⟨w.heap.size, 2, none⟩) (Nat.lt_succ_self _) _) (p := ⟨w.heap.size, 3, none⟩) (Nat.lt_succ_self _) _) (p := ⟨w.heap.size, 4, none⟩) (Nat.lt_succ_self _) _) (p := ⟨w.heap.size, 5, none⟩) (Nat.lt_succ_self _) _) (p := ⟨w.heap.size, 6, none⟩) (Nat.lt_succ_self _) _) (p := ⟨w.heap.size, 7, none⟩) (Nat.lt_succ_self _) _).more (Nat.le_succ _)), ((Own.setLt (Own.setLt (Own.setLt (Own.setLt (Own.setLt (Own.setLt (Own.setLt (Own.setLt HP.out.o2 (p := ⟨w.heap.size, 0, none⟩) (Nat.lt_succ_self _) _) (p := ⟨w.heap.size, 1, none⟩) (Nat.lt_succ_self _) _) (p := ⟨w.heap.size, 2, none⟩) (Nat.lt_succ_self _) _) (p := ⟨w.heap.size, 3, none⟩) (Nat.lt_succ_self _) _) (p := ⟨w.heap.size, 4, none⟩) (Nat.lt_succ_self _) _) (p := ⟨w.heap.size, 5, none⟩) (Nat.lt_succ_self _) _) (p := ⟨w.heap.size, 6, none⟩) (Nat.lt_succ_self _) _) (p := ⟨w.heap.size, 7, none⟩) (Nat.lt_succ_self _) _).more (Nat.le_succ _))⟩, ((((((((HP.out.fl.bx.setCell (p := ⟨w.heap.size, 0, none⟩) (Nat.le_refl _) hlb _).setCell (p := ⟨w.heap.size, 1, none⟩) (Nat.le_refl _) hlb _).setCell (p := ⟨w.heap.size, 2, none⟩) (Nat.le_refl _) hlb _).setCell (p := ⟨w.heap.size, 3, none⟩) (Nat.le_refl _) hlb _).setCell (p := ⟨w.heap.size, 4, none⟩) (Nat.le_refl _) hlb _).setCell (p := ⟨w.heap.size, 5, none⟩) (Nat.le_refl _) hlb _).setCell (p := ⟨w.heap.size, 6, none⟩) (Nat.le_refl _) hlb _).setCell (p := ⟨w.heap.size, 7, none⟩) (Nat.le_refl _) hlb _)⟩
  · have hw3 : IntKind.i64.wrap (3 - kind) = 3 - kind := by rw [IntKind.wrap_i64]; have := HP2.out.bd; omega
    have hkb := HP2.out.bd.2.2.2
    have hbw2 : b < w2.heap.size := by have := HP2.out.fl.l1; have := HP2.out.fl.l0; omega
    have hgw2 := HP2.out.fl.l1
    obtain ⟨x0, x1, x2, x3, x4, x5, x6, x7, xf⟩ := blk8 HP2.out.fl.k
    have HLA : Hid ((w2.alloc (.cells #[.int .i64 0, .int .i64 3, .int .i64 (3 - kind)] 2)).drew.heap[w2.heap.size]? = some (.cells #[.int .i64 0, .int .i64 3, .int .i64 (3 - kind)] 2 (0, 0))) := Lib.hid (heap_alloc_new w2 (.cells #[.int .i64 0, .int .i64 3, .int .i64 (3 - kind)] 2))
    go_upto_region 6 with fail
    go_region_with (go_at_call 93; with_reducible refine (draw_any b A n c bs B (3) _ (by first | exact HP2.out.drew.fl.inv | exact (HP2.out.alloc _).drew.fl.inv) (by omega)).mono ?_; rintro e3 w3 ⟨u3, rfl, ⟨r3, rfl, hr3a, hr3b⟩, hb3⟩; (first | have HP3 := Lib.hid (HP2.out.drew.step hb3) | have HP3 := Lib.hid ((HP2.out.alloc _).drew.step hb3)); obtain ⟨R, hRr⟩ := Int.eq_ofNat_of_zero_le hr3a; subst hRr; have hR : R < 3 := (by omega); have hRi : (R : Int) < 3 := (by omega); have h3a := three_at hR; have h3b := three_atL hR; (first | have hl3 : w3.cell? ⟨w2.heap.size, R, none⟩ = some (.int .i64 (pick3 R 0 3 (3 - kind))) := blk3R (show w3.heap[w2.heap.size]? = some (.cells #[.int .i64 0, .int .i64 3, .int .i64 (3 - kind)] 2 (0, 0)) from (hb3.block w2.heap.size (by simp) (by simp; omega)).trans HLA.out) hR | skip); have hpk := Lib.hid (pick3_rg (R := R) (x := 0) (y := 3) (z := 3 - kind) (by omega) (by omega) (by omega)); obtain ⟨y0, y1, y2, y3, y4, y5, y6, y7, yf⟩ := blk8 HP3.out.fl.k; have hg3 := HP3.out.fl.l1; have hs3 := hb3.size; (first | simp only [World.size_alloc] at hs3 | skip); clear hb3)
    all_goals
      go_upto_region 18 with fail
      refine gen_worldF (P := fun W' => Code.wp _ _ _ _ W') (Q := fun W' => ∃ K : Int, FaP (srcP 106 b A n c bs B) w g s K p k gg col v1 v2 sz lv W') (by first | exact ⟨_, HP3.out.set1 hpk.out⟩ | exact ⟨_, (HP3.out.alloc _).set1 hpk.out⟩ | exact ⟨_, (HP3.out.set1 hpk.out).alloc _⟩) ?_
      rintro W' ⟨K, hp⟩
      have HP := Lib.hid hp
      clear hp y0 y1 y2 y3 y4 y5 y6 y7 yf x0 x1 x2 x3 x4 x5 x6 x7 xf
      obtain ⟨AF1, cF1, eF1, -⟩ := HP.out.o1.shape
      obtain ⟨AF2, cF2, eF2, -⟩ := HP.out.o2.shape
      subst eF1 eF2
      obtain ⟨y0, y1, y2, y3, y4, y5, y6, y7, -⟩ := blk8 HP.out.fl.k
      obtain ⟨z0, z1, z2, z3, z4, z5, z6, z7, zf⟩ := blk8 HP.out.fl.z
      obtain ⟨s0, s1, s2, s3, s4, s5, s6, s7, -⟩ := blk8 (res8 HP.out.fl.z (.string s) (.int .i64 K) (.int .i64 p) (.int .i64 k) (.int .i64 gg) (.slice AF1 sz.length cF1) (.int .i64 col) (.slice AF2 lv.length cF2))
      have hl0 := HP.out.fl.l0
      have hl1 := HP.out.fl.l1
      have hlb := HP.out.fl.lb
      go_wp2_with fail
      (try simp only [Exit.inBlock, Exit.then]); refine bodyPost_ret (by simp [results, Try.results56, go_sem, s0, s1, s2, s3, s4, s5, s6, s7]; try rfl) rfl ?_
      exact ⟨_, rfl, ⟨_, _, _, _, _, _, _, _, _, _, rfl, HP.out.bd, ((Own.setLt (Own.setLt (Own.setLt (Own.setLt (Own.setLt (Own.setLt (Own.setLt (Own.setLt HP.out.o1 (p := ⟨w.heap.size, 0, none⟩) (Nat.lt_succ_self _) _) (p := ⟨w.heap.size, 1, none⟩) (Nat.lt_succ_self _) _) (p := ⟨w.heap.size, 2, none⟩) (Nat.lt_succ_self _) _) (p := ⟨w.heap.size, 3, none⟩) (Nat.lt_succ_self _) _) (p := ⟨w.heap.size, 4, none⟩) (Nat.lt_succ_self _) _) (p := ⟨w.heap.size, 5, none⟩) (Nat.lt_succ_self _) _) (p := ⟨w.heap.size, 6, none⟩) (Nat.lt_succ_self _) _) (p := ⟨w.heap.size, 7, none⟩) (Nat.lt_succ_self _) _).more (Nat.le_succ _)), ((Own.setLt (Own.setLt (Own.setLt (Own.setLt (Own.setLt (Own.setLt (Own.setLt (Own.setLt HP.out.o2 (p := ⟨w.heap.size, 0, none⟩) (Nat.lt_succ_self _) _) (p := ⟨w.heap.size, 1, none⟩) (Nat.lt_succ_self _) _) (p := ⟨w.heap.size, 2, none⟩) (Nat.lt_succ_self _) _) (p := ⟨w.heap.size, 3, none⟩) (Nat.lt_succ_self _) _) (p := ⟨w.heap.size, 4, none⟩) (Nat.lt_succ_self _) _) (p := ⟨w.heap.size, 5, none⟩) (Nat.lt_succ_self _) _) (p := ⟨w.heap.size, 6, none⟩) (Nat.lt_succ_self _) _) (p := ⟨w.heap.size, 7, none⟩) (Nat.lt_succ_self _) _).more (Nat.le_succ _))⟩, ((((((((HP.out.fl.bx.setCell (p := ⟨w.heap.size, 0, none⟩) (Nat.le_refl _) hlb _).setCell (p := ⟨w.heap.size, 1, none⟩) (Nat.le_refl _) hlb _).setCell (p := ⟨w.heap.size, 2, none⟩) (Nat.le_refl _) hlb _).setCell (p := ⟨w.heap.size, 3, none⟩) (Nat.le_refl _) hlb _).setCell (p := ⟨w.heap.size, 4, none⟩) (Nat.le_refl _) hlb _).setCell (p := ⟨w.heap.size, 5, none⟩) (Nat.le_refl _) hlb _).setCell (p := ⟨w.heap.size, 6, none⟩) (Nat.le_refl _) hlb _).setCell (p := ⟨w.heap.size, 7, none⟩) (Nat.le_refl _) hlb _)⟩
  · go_wp2_with fail
    go_at_call 93
    with_reducible refine (draw_any b A n c bs B (7) _ (((((((HP2.out.alloc _).alloc _).alloc _).alloc _).alloc _).alloc _).alloc _).fl.inv (by omega)).mono ?_
    rintro e3 w3 ⟨u3, rfl, ⟨r3, rfl, hr3a, hr3b⟩, hb3⟩
    have HP3 := Lib.hid ((((((((HP2.out.alloc _).alloc _).alloc _).alloc _).alloc _).alloc _).alloc _).step hb3)
    have hb3' : BX (srcP 106 b A n c bs B) (allocs w2 ([.cells #[.int .i64 17, .int .i64 17] 2, .cells #[.int .i64 13, .int .i64 17] 2, .cells #[.int .i64 41, .int .i64 45] 2, .cells #[.int .i64 18] 2, .cells #[.int .i64 3] 2, .cells #[.int .i64 25] 2, .cells #[.slice none 0 0, .slice (some ⟨w2.heap.size, 0, none⟩) 2 2, .slice (some ⟨w2.heap.size + 1, 0, none⟩) 2 2, .slice (some ⟨w2.heap.size + 2, 0, none⟩) 2 2, .slice (some ⟨w2.heap.size + 3, 0, none⟩) 1 1, .slice (some ⟨w2.heap.size + 4, 0, none⟩) 1 1, .slice (some ⟨w2.heap.size + 5, 0, none⟩) 1 1] 24])).heap.size (allocs w2 ([.cells #[.int .i64 17, .int .i64 17] 2, .cells #[.int .i64 13, .int .i64 17] 2, .cells #[.int .i64 41, .int .i64 45] 2, .cells #[.int .i64 18] 2, .cells #[.int .i64 3] 2, .cells #[.int .i64 25] 2, .cells #[.slice none 0 0, .slice (some ⟨w2.heap.size, 0, none⟩) 2 2, .slice (some ⟨w2.heap.size + 1, 0, none⟩) 2 2, .slice (some ⟨w2.heap.size + 2, 0, none⟩) 2 2, .slice (some ⟨w2.heap.size + 3, 0, none⟩) 1 1, .slice (some ⟨w2.heap.size + 4, 0, none⟩) 1 1, .slice (some ⟨w2.heap.size + 5, 0, none⟩) 1 1] 24])) w3 := hb3
    have hsz := allocs_size ([.cells #[.int .i64 17, .int .i64 17] 2, .cells #[.int .i64 13, .int .i64 17] 2, .cells #[.int .i64 41, .int .i64 45] 2, .cells #[.int .i64 18] 2, .cells #[.int .i64 3] 2, .cells #[.int .i64 25] 2, .cells #[.slice none 0 0, .slice (some ⟨w2.heap.size, 0, none⟩) 2 2, .slice (some ⟨w2.heap.size + 1, 0, none⟩) 2 2, .slice (some ⟨w2.heap.size + 2, 0, none⟩) 2 2, .slice (some ⟨w2.heap.size + 3, 0, none⟩) 1 1, .slice (some ⟨w2.heap.size + 4, 0, none⟩) 1 1, .slice (some ⟨w2.heap.size + 5, 0, none⟩) 1 1] 24]) w2
    have hbw2 : b < w2.heap.size := by have := HP2.out.fl.l1; have := HP2.out.fl.l0; omega
    have hgw2 := HP2.out.fl.l1
    have hww2 := HP2.out.fl.l0
    have hget : ∀ i, i < 7 → w3.heap[w2.heap.size + i]? = ([.cells #[.int .i64 17, .int .i64 17] 2, .cells #[.int .i64 13, .int .i64 17] 2, .cells #[.int .i64 41, .int .i64 45] 2, .cells #[.int .i64 18] 2, .cells #[.int .i64 3] 2, .cells #[.int .i64 25] 2, .cells #[.slice none 0 0, .slice (some ⟨w2.heap.size, 0, none⟩) 2 2, .slice (some ⟨w2.heap.size + 1, 0, none⟩) 2 2, .slice (some ⟨w2.heap.size + 2, 0, none⟩) 2 2, .slice (some ⟨w2.heap.size + 3, 0, none⟩) 1 1, .slice (some ⟨w2.heap.size + 4, 0, none⟩) 1 1, .slice (some ⟨w2.heap.size + 5, 0, none⟩) 1 1] 24])[i]? := fun i hi => (hb3'.block _ (by rw [hsz]; exact Nat.add_lt_add_left hi _) (by simp; omega)).trans (allocs_get ([.cells #[.int .i64 17, .int .i64 17] 2, .cells #[.int .i64 13, .int .i64 17] 2, .cells #[.int .i64 41, .int .i64 45] 2, .cells #[.int .i64 18] 2, .cells #[.int .i64 3] 2, .cells #[.int .i64 25] 2, .cells #[.slice none 0 0, .slice (some ⟨w2.heap.size, 0, none⟩) 2 2, .slice (some ⟨w2.heap.size + 1, 0, none⟩) 2 2, .slice (some ⟨w2.heap.size + 2, 0, none⟩) 2 2, .slice (some ⟨w2.heap.size + 3, 0, none⟩) 1 1, .slice (some ⟨w2.heap.size + 4, 0, none⟩) 1 1, .slice (some ⟨w2.heap.size + 5, 0, none⟩) 1 1] 24]) w2 i hi)
    have hs3 := hb3'.size
    rw [hsz] at hs3
    have hs3' : w2.heap.size + 7 ≤ w3.heap.size := hs3
    have hbig := hget 6 (by omega)
    obtain ⟨R, vv, xs, hRe, hR, hck, hov, hnv, hlv⟩ : ∃ (R : Nat) (vv : Value) (xs : List Int), r3 = R ∧ R < 7 ∧ w3.cell? ⟨w2.heap.size + 1 + 1 + 1 + 1 + 1 + 1, R, none⟩ = some vv ∧ Own w3 (w.heap.size + 1) vv xs ∧ (∀ j, vv.ownBlock = some j → j ≠ g) ∧ xs.length ≤ 100 := by
      rcases (show r3 = 0 ∨ r3 = 1 ∨ r3 = 2 ∨ r3 = 3 ∨ r3 = 4 ∨ r3 = 5 ∨ r3 = 6 by omega) with rfl | rfl | rfl | rfl | rfl | rfl | rfl
      · exact ⟨0, _, [], rfl, by decide, (blk_cell hbig 0).trans rfl, Own.nil, (fun j hj => by cases hj), by decide⟩
      · exact ⟨1, _, [17, 17], rfl, by decide, (blk_cell hbig 1).trans rfl, own_lit (hget 0 (by omega)) (by omega) rfl (by decide), (fun j hj => by simp [Value.ownBlock] at hj; omega), by decide⟩
      · exact ⟨2, _, [13, 17], rfl, by decide, (blk_cell hbig 2).trans rfl, own_lit (hget 1 (by omega)) (by omega) rfl (by decide), (fun j hj => by simp [Value.ownBlock] at hj; omega), by decide⟩
      · exact ⟨3, _, [41, 45], rfl, by decide, (blk_cell hbig 3).trans rfl, own_lit (hget 2 (by omega)) (by omega) rfl (by decide), (fun j hj => by simp [Value.ownBlock] at hj; omega), by decide⟩
      · exact ⟨4, _, [18], rfl, by decide, (blk_cell hbig 4).trans rfl, own_lit (hget 3 (by omega)) (by omega) rfl (by decide), (fun j hj => by simp [Value.ownBlock] at hj; omega), by decide⟩
      · exact ⟨5, _, [3], rfl, by decide, (blk_cell hbig 5).trans rfl, own_lit (hget 4 (by omega)) (by omega) rfl (by decide), (fun j hj => by simp [Value.ownBlock] at hj; omega), by decide⟩
      · exact ⟨6, _, [25], rfl, by decide, (blk_cell hbig 6).trans rfl, own_lit (hget 5 (by omega)) (by omega) rfl (by decide), (fun j hj => by simp [Value.ownBlock] at hj; omega), by decide⟩
    subst hRe
    obtain ⟨AV, cV, rfl, -⟩ := hov.shape
    have HOV := Lib.hid hov
    have HNV := Lib.hid hnv
    have HLV := Lib.hid hlv
    have hRi : (R : Int) < 7 := by omega
    have hbs3 : w2.heap.size + 1 + 1 + 1 + 1 + 1 + 1 < w3.heap.size := by omega
    obtain ⟨y0, y1, y2, y3, y4, y5, y6, y7, yf⟩ := blk8 HP3.out.fl.k
    have hg3 := HP3.out.fl.l1
    clear hb3 hb3' hsz hget hbig hov hnv hlv hs3 hs3'
    go_upto_region 18 with fail
    refine gen_worldF (P := fun W' => Code.wp _ _ _ _ W') (Q := fun W' => ∃ v : Value, FaP (srcP 106 b A n c bs B) w g s kind p k gg col v v2 xs lv W') ⟨_, HP3.out.set5 HOV.out HNV.out HLV.out⟩ ?_
    rintro W' ⟨v, hp⟩
    have HP := Lib.hid hp
    clear hp
    clear y0 y1 y2 y3 y4 y5 y6 y7 yf hck
    obtain ⟨AF1, cF1, eF1, -⟩ := HP.out.o1.shape
    obtain ⟨AF2, cF2, eF2, -⟩ := HP.out.o2.shape
    subst eF1 eF2
    obtain ⟨y0, y1, y2, y3, y4, y5, y6, y7, -⟩ := blk8 HP.out.fl.k
    obtain ⟨z0, z1, z2, z3, z4, z5, z6, z7, zf⟩ := blk8 HP.out.fl.z
    obtain ⟨s0, s1, s2, s3, s4, s5, s6, s7, -⟩ := blk8 (res8 HP.out.fl.z (.string s) (.int .i64 kind) (.int .i64 p) (.int .i64 k) (.int .i64 gg) (.slice AF1 xs.length cF1) (.int .i64 col) (.slice AF2 lv.length cF2))
    have hl0 := HP.out.fl.l0
    have hl1 := HP.out.fl.l1
    have hlb := HP.out.fl.lb
    go_wp2_with fail
    (try simp only [Exit.inBlock, Exit.then]); refine bodyPost_ret (by simp [results, Try.results56, go_sem, s0, s1, s2, s3, s4, s5, s6, s7]; try rfl) rfl ?_
    exact ⟨_, rfl, ⟨_, _, _, _, _, _, _, _, _, _, rfl, HP.out.bd, ((Own.setLt (Own.setLt (Own.setLt (Own.setLt (Own.setLt (Own.setLt (Own.setLt (Own.setLt HP.out.o1 (p := ⟨w.heap.size, 0, none⟩) (Nat.lt_succ_self _) _) (p := ⟨w.heap.size, 1, none⟩) (Nat.lt_succ_self _) _) (p := ⟨w.heap.size, 2, none⟩) (Nat.lt_succ_self _) _) (p := ⟨w.heap.size, 3, none⟩) (Nat.lt_succ_self _) _) (p := ⟨w.heap.size, 4, none⟩) (Nat.lt_succ_self _) _) (p := ⟨w.heap.size, 5, none⟩) (Nat.lt_succ_self _) _) (p := ⟨w.heap.size, 6, none⟩) (Nat.lt_succ_self _) _) (p := ⟨w.heap.size, 7, none⟩) (Nat.lt_succ_self _) _).more (Nat.le_succ _)), ((Own.setLt (Own.setLt (Own.setLt (Own.setLt (Own.setLt (Own.setLt (Own.setLt (Own.setLt HP.out.o2 (p := ⟨w.heap.size, 0, none⟩) (Nat.lt_succ_self _) _) (p := ⟨w.heap.size, 1, none⟩) (Nat.lt_succ_self _) _) (p := ⟨w.heap.size, 2, none⟩) (Nat.lt_succ_self _) _) (p := ⟨w.heap.size, 3, none⟩) (Nat.lt_succ_self _) _) (p := ⟨w.heap.size, 4, none⟩) (Nat.lt_succ_self _) _) (p := ⟨w.heap.size, 5, none⟩) (Nat.lt_succ_self _) _) (p := ⟨w.heap.size, 6, none⟩) (Nat.lt_succ_self _) _) (p := ⟨w.heap.size, 7, none⟩) (Nat.lt_succ_self _) _).more (Nat.le_succ _))⟩, ((((((((HP.out.fl.bx.setCell (p := ⟨w.heap.size, 0, none⟩) (Nat.le_refl _) hlb _).setCell (p := ⟨w.heap.size, 1, none⟩) (Nat.le_refl _) hlb _).setCell (p := ⟨w.heap.size, 2, none⟩) (Nat.le_refl _) hlb _).setCell (p := ⟨w.heap.size, 3, none⟩) (Nat.le_refl _) hlb _).setCell (p := ⟨w.heap.size, 4, none⟩) (Nat.le_refl _) hlb _).setCell (p := ⟨w.heap.size, 5, none⟩) (Nat.le_refl _) hlb _).setCell (p := ⟨w.heap.size, 6, none⟩) (Nat.le_refl _) hlb _).setCell (p := ⟨w.heap.size, 7, none⟩) (Nat.le_refl _) hlb _)⟩
  · go_wp2_with fail
    go_at_call 93
    with_reducible refine (draw_any b A n c bs B (7) _ (((((((HP2.out.alloc _).alloc _).alloc _).alloc _).alloc _).alloc _).alloc _).fl.inv (by omega)).mono ?_
    rintro e3 w3 ⟨u3, rfl, ⟨r3, rfl, hr3a, hr3b⟩, hb3⟩
    have HP3 := Lib.hid ((((((((HP2.out.alloc _).alloc _).alloc _).alloc _).alloc _).alloc _).alloc _).step hb3)
    have hb3' : BX (srcP 106 b A n c bs B) (allocs w2 ([.cells #[.int .i64 0] 2, .cells #[.int .i64 80] 2, .cells #[.int .i64 81] 2, .cells #[.int .i64 10, .int .i64 10] 2, .cells #[.int .i64 1, .int .i64 2, .int .i64 3, .int .i64 4] 2, .cells #[.int .i64 1, .int .i64 2, .int .i64 3, .int .i64 4, .int .i64 5] 2, .cells #[.slice none 0 0, .slice (some ⟨w2.heap.size, 0, none⟩) 1 1, .slice (some ⟨w2.heap.size + 1, 0, none⟩) 1 1, .slice (some ⟨w2.heap.size + 2, 0, none⟩) 1 1, .slice (some ⟨w2.heap.size + 3, 0, none⟩) 2 2, .slice (some ⟨w2.heap.size + 4, 0, none⟩) 4 4, .slice (some ⟨w2.heap.size + 5, 0, none⟩) 5 5] 24])).heap.size (allocs w2 ([.cells #[.int .i64 0] 2, .cells #[.int .i64 80] 2, .cells #[.int .i64 81] 2, .cells #[.int .i64 10, .int .i64 10] 2, .cells #[.int .i64 1, .int .i64 2, .int .i64 3, .int .i64 4] 2, .cells #[.int .i64 1, .int .i64 2, .int .i64 3, .int .i64 4, .int .i64 5] 2, .cells #[.slice none 0 0, .slice (some ⟨w2.heap.size, 0, none⟩) 1 1, .slice (some ⟨w2.heap.size + 1, 0, none⟩) 1 1, .slice (some ⟨w2.heap.size + 2, 0, none⟩) 1 1, .slice (some ⟨w2.heap.size + 3, 0, none⟩) 2 2, .slice (some ⟨w2.heap.size + 4, 0, none⟩) 4 4, .slice (some ⟨w2.heap.size + 5, 0, none⟩) 5 5] 24])) w3 := hb3
    have hsz := allocs_size ([.cells #[.int .i64 0] 2, .cells #[.int .i64 80] 2, .cells #[.int .i64 81] 2, .cells #[.int .i64 10, .int .i64 10] 2, .cells #[.int .i64 1, .int .i64 2, .int .i64 3, .int .i64 4] 2, .cells #[.int .i64 1, .int .i64 2, .int .i64 3, .int .i64 4, .int .i64 5] 2, .cells #[.slice none 0 0, .slice (some ⟨w2.heap.size, 0, none⟩) 1 1, .slice (some ⟨w2.heap.size + 1, 0, none⟩) 1 1, .slice (some ⟨w2.heap.size + 2, 0, none⟩) 1 1, .slice (some ⟨w2.heap.size + 3, 0, none⟩) 2 2, .slice (some ⟨w2.heap.size + 4, 0, none⟩) 4 4, .slice (some ⟨w2.heap.size + 5, 0, none⟩) 5 5] 24]) w2
    have hbw2 : b < w2.heap.size := by have := HP2.out.fl.l1; have := HP2.out.fl.l0; omega
    have hgw2 := HP2.out.fl.l1
    have hww2 := HP2.out.fl.l0
    have hget : ∀ i, i < 7 → w3.heap[w2.heap.size + i]? = ([.cells #[.int .i64 0] 2, .cells #[.int .i64 80] 2, .cells #[.int .i64 81] 2, .cells #[.int .i64 10, .int .i64 10] 2, .cells #[.int .i64 1, .int .i64 2, .int .i64 3, .int .i64 4] 2, .cells #[.int .i64 1, .int .i64 2, .int .i64 3, .int .i64 4, .int .i64 5] 2, .cells #[.slice none 0 0, .slice (some ⟨w2.heap.size, 0, none⟩) 1 1, .slice (some ⟨w2.heap.size + 1, 0, none⟩) 1 1, .slice (some ⟨w2.heap.size + 2, 0, none⟩) 1 1, .slice (some ⟨w2.heap.size + 3, 0, none⟩) 2 2, .slice (some ⟨w2.heap.size + 4, 0, none⟩) 4 4, .slice (some ⟨w2.heap.size + 5, 0, none⟩) 5 5] 24])[i]? := fun i hi => (hb3'.block _ (by rw [hsz]; exact Nat.add_lt_add_left hi _) (by simp; omega)).trans (allocs_get ([.cells #[.int .i64 0] 2, .cells #[.int .i64 80] 2, .cells #[.int .i64 81] 2, .cells #[.int .i64 10, .int .i64 10] 2, .cells #[.int .i64 1, .int .i64 2, .int .i64 3, .int .i64 4] 2, .cells #[.int .i64 1, .int .i64 2, .int .i64 3, .int .i64 4, .int .i64 5] 2, .cells #[.slice none 0 0, .slice (some ⟨w2.heap.size, 0, none⟩) 1 1, .slice (some ⟨w2.heap.size + 1, 0, none⟩) 1 1, .slice (some ⟨w2.heap.size + 2, 0, none⟩) 1 1, .slice (some ⟨w2.heap.size + 3, 0, none⟩) 2 2, .slice (some ⟨w2.heap.size + 4, 0, none⟩) 4 4, .slice (some ⟨w2.heap.size + 5, 0, none⟩) 5 5] 24]) w2 i hi)
    have hs3 := hb3'.size
    rw [hsz] at hs3
    have hs3' : w2.heap.size + 7 ≤ w3.heap.size := hs3
    have hbig := hget 6 (by omega)
    obtain ⟨R, vv, xs, hRe, hR, hck, hov, hnv, hlv⟩ : ∃ (R : Nat) (vv : Value) (xs : List Int), r3 = R ∧ R < 7 ∧ w3.cell? ⟨w2.heap.size + 1 + 1 + 1 + 1 + 1 + 1, R, none⟩ = some vv ∧ Own w3 (w.heap.size + 1) vv xs ∧ (∀ j, vv.ownBlock = some j → j ≠ g) ∧ xs.length ≤ 100 := by
      rcases (show r3 = 0 ∨ r3 = 1 ∨ r3 = 2 ∨ r3 = 3 ∨ r3 = 4 ∨ r3 = 5 ∨ r3 = 6 by omega) with rfl | rfl | rfl | rfl | rfl | rfl | rfl
      · exact ⟨0, _, [], rfl, by decide, (blk_cell hbig 0).trans rfl, Own.nil, (fun j hj => by cases hj), by decide⟩
      · exact ⟨1, _, [0], rfl, by decide, (blk_cell hbig 1).trans rfl, own_lit (hget 0 (by omega)) (by omega) rfl (by decide), (fun j hj => by simp [Value.ownBlock] at hj; omega), by decide⟩
      · exact ⟨2, _, [80], rfl, by decide, (blk_cell hbig 2).trans rfl, own_lit (hget 1 (by omega)) (by omega) rfl (by decide), (fun j hj => by simp [Value.ownBlock] at hj; omega), by decide⟩
      · exact ⟨3, _, [81], rfl, by decide, (blk_cell hbig 3).trans rfl, own_lit (hget 2 (by omega)) (by omega) rfl (by decide), (fun j hj => by simp [Value.ownBlock] at hj; omega), by decide⟩
      · exact ⟨4, _, [10, 10], rfl, by decide, (blk_cell hbig 4).trans rfl, own_lit (hget 3 (by omega)) (by omega) rfl (by decide), (fun j hj => by simp [Value.ownBlock] at hj; omega), by decide⟩
      · exact ⟨5, _, [1, 2, 3, 4], rfl, by decide, (blk_cell hbig 5).trans rfl, own_lit (hget 4 (by omega)) (by omega) rfl (by decide), (fun j hj => by simp [Value.ownBlock] at hj; omega), by decide⟩
      · exact ⟨6, _, [1, 2, 3, 4, 5], rfl, by decide, (blk_cell hbig 6).trans rfl, own_lit (hget 5 (by omega)) (by omega) rfl (by decide), (fun j hj => by simp [Value.ownBlock] at hj; omega), by decide⟩
    subst hRe
    obtain ⟨AV, cV, rfl, -⟩ := hov.shape
    have HOV := Lib.hid hov
    have HNV := Lib.hid hnv
    have HLV := Lib.hid hlv
    have hRi : (R : Int) < 7 := by omega
    have hbs3 : w2.heap.size + 1 + 1 + 1 + 1 + 1 + 1 < w3.heap.size := by omega
    obtain ⟨y0, y1, y2, y3, y4, y5, y6, y7, yf⟩ := blk8 HP3.out.fl.k
    have hg3 := HP3.out.fl.l1
    clear hb3 hb3' hsz hget hbig hov hnv hlv hs3 hs3'
    go_upto_region 18 with fail
    refine gen_worldF (P := fun W' => Code.wp _ _ _ _ W') (Q := fun W' => ∃ v : Value, FaP (srcP 106 b A n c bs B) w g s kind p k gg col v1 v sz xs W') ⟨_, HP3.out.set7 HOV.out HNV.out HLV.out⟩ ?_
    rintro W' ⟨v, hp⟩
    have HP := Lib.hid hp
    clear hp
    clear y0 y1 y2 y3 y4 y5 y6 y7 yf hck
    obtain ⟨AF1, cF1, eF1, -⟩ := HP.out.o1.shape
    obtain ⟨AF2, cF2, eF2, -⟩ := HP.out.o2.shape
    subst eF1 eF2
    obtain ⟨y0, y1, y2, y3, y4, y5, y6, y7, -⟩ := blk8 HP.out.fl.k
    obtain ⟨z0, z1, z2, z3, z4, z5, z6, z7, zf⟩ := blk8 HP.out.fl.z
    obtain ⟨s0, s1, s2, s3, s4, s5, s6, s7, -⟩ := blk8 (res8 HP.out.fl.z (.string s) (.int .i64 kind) (.int .i64 p) (.int .i64 k) (.int .i64 gg) (.slice AF1 sz.length cF1) (.int .i64 col) (.slice AF2 xs.length cF2))
    have hl0 := HP.out.fl.l0
    have hl1 := HP.out.fl.l1
    have hlb := HP.out.fl.lb
    go_wp2_with fail
    (try simp only [Exit.inBlock, Exit.then]); refine bodyPost_ret (by simp [results, Try.results56, go_sem, s0, s1, s2, s3, s4, s5, s6, s7]; try rfl) rfl ?_
    exact ⟨_, rfl, ⟨_, _, _, _, _, _, _, _, _, _, rfl, HP.out.bd, ((Own.setLt (Own.setLt (Own.setLt (Own.setLt (Own.setLt (Own.setLt (Own.setLt (Own.setLt HP.out.o1 (p := ⟨w.heap.size, 0, none⟩) (Nat.lt_succ_self _) _) (p := ⟨w.heap.size, 1, none⟩) (Nat.lt_succ_self _) _) (p := ⟨w.heap.size, 2, none⟩) (Nat.lt_succ_self _) _) (p := ⟨w.heap.size, 3, none⟩) (Nat.lt_succ_self _) _) (p := ⟨w.heap.size, 4, none⟩) (Nat.lt_succ_self _) _) (p := ⟨w.heap.size, 5, none⟩) (Nat.lt_succ_self _) _) (p := ⟨w.heap.size, 6, none⟩) (Nat.lt_succ_self _) _) (p := ⟨w.heap.size, 7, none⟩) (Nat.lt_succ_self _) _).more (Nat.le_succ _)), ((Own.setLt (Own.setLt (Own.setLt (Own.setLt (Own.setLt (Own.setLt (Own.setLt (Own.setLt HP.out.o2 (p := ⟨w.heap.size, 0, none⟩) (Nat.lt_succ_self _) _) (p := ⟨w.heap.size, 1, none⟩) (Nat.lt_succ_self _) _) (p := ⟨w.heap.size, 2, none⟩) (Nat.lt_succ_self _) _) (p := ⟨w.heap.size, 3, none⟩) (Nat.lt_succ_self _) _) (p := ⟨w.heap.size, 4, none⟩) (Nat.lt_succ_self _) _) (p := ⟨w.heap.size, 5, none⟩) (Nat.lt_succ_self _) _) (p := ⟨w.heap.size, 6, none⟩) (Nat.lt_succ_self _) _) (p := ⟨w.heap.size, 7, none⟩) (Nat.lt_succ_self _) _).more (Nat.le_succ _))⟩, ((((((((HP.out.fl.bx.setCell (p := ⟨w.heap.size, 0, none⟩) (Nat.le_refl _) hlb _).setCell (p := ⟨w.heap.size, 1, none⟩) (Nat.le_refl _) hlb _).setCell (p := ⟨w.heap.size, 2, none⟩) (Nat.le_refl _) hlb _).setCell (p := ⟨w.heap.size, 3, none⟩) (Nat.le_refl _) hlb _).setCell (p := ⟨w.heap.size, 4, none⟩) (Nat.le_refl _) hlb _).setCell (p := ⟨w.heap.size, 5, none⟩) (Nat.le_refl _) hlb _).setCell (p := ⟨w.heap.size, 6, none⟩) (Nat.le_refl _) hlb _).setCell (p := ⟨w.heap.size, 7, none⟩) (Nat.le_refl _) hlb _)⟩
  · go_wp2_with fail
    go_at_call 93
    with_reducible refine (draw_any b A n c bs B (4) _ (HP2.out.alloc _).fl.inv (by omega)).mono ?_
    rintro e3 w3 ⟨u3, rfl, ⟨r3, rfl, hr3a, hr3b⟩, hb3⟩
    have HP3 := Lib.hid ((HP2.out.alloc _).step hb3)
    have hl3 : w3.heap[w2.heap.size]? = some (.cells ([0, 1, 8, 9].map (Value.int .i64)).toArray 2 (0, 0)) := (hb3.block _ (by simp) (by have := HP2.out.fl.l1; have := HP2.out.fl.l0; simp; omega)).trans (heap_alloc_new _ _)
    obtain ⟨R, v, rfl, hR, hv, -, -⟩ := pick_in (xs := [0, 1, 8, 9]) (lo := 0) (hi := 9) (by decide) hr3a (by simp; omega)
    have hck := pick_lit hl3 hv
    have hR' : R < 4 := hR
    obtain ⟨y0, y1, y2, y3, y4, y5, y6, y7, yf⟩ := blk8 HP3.out.fl.k
    have hg3 := HP3.out.fl.l1
    have hs3 := hb3.size
    simp only [World.size_alloc] at hs3
    clear hl3 hv hb3
    go_upto_region 18 with fail
    refine gen_worldF (P := fun W' => Code.wp _ _ _ _ W') (Q := fun W' => FaP (srcP 106 b A n c bs B) w g s kind p k gg v v1 v2 sz lv W') HP3.out.set6 ?_
    rintro W' hp
    have HP := Lib.hid hp
    clear hp
    clear y0 y1 y2 y3 y4 y5 y6 y7 yf hck
    obtain ⟨AF1, cF1, eF1, -⟩ := HP.out.o1.shape
    obtain ⟨AF2, cF2, eF2, -⟩ := HP.out.o2.shape
    subst eF1 eF2
    obtain ⟨y0, y1, y2, y3, y4, y5, y6, y7, -⟩ := blk8 HP.out.fl.k
    obtain ⟨z0, z1, z2, z3, z4, z5, z6, z7, zf⟩ := blk8 HP.out.fl.z
    obtain ⟨s0, s1, s2, s3, s4, s5, s6, s7, -⟩ := blk8 (res8 HP.out.fl.z (.string s) (.int .i64 kind) (.int .i64 p) (.int .i64 k) (.int .i64 gg) (.slice AF1 sz.length cF1) (.int .i64 v) (.slice AF2 lv.length cF2))
    have hl0 := HP.out.fl.l0
    have hl1 := HP.out.fl.l1
    have hlb := HP.out.fl.lb
    go_wp2_with fail
    (try simp only [Exit.inBlock, Exit.then]); refine bodyPost_ret (by simp [results, Try.results56, go_sem, s0, s1, s2, s3, s4, s5, s6, s7]; try rfl) rfl ?_
    exact ⟨_, rfl, ⟨_, _, _, _, _, _, _, _, _, _, rfl, HP.out.bd, ((Own.setLt (Own.setLt (Own.setLt (Own.setLt (Own.setLt (Own.setLt (Own.setLt (Own.setLt HP.out.o1 (p := ⟨w.heap.size, 0, none⟩) (Nat.lt_succ_self _) _) (p := ⟨w.heap.size, 1, none⟩) (Nat.lt_succ_self _) _) (p := ⟨w.heap.size, 2, none⟩) (Nat.lt_succ_self _) _) (p := ⟨w.heap.size, 3, none⟩) (Nat.lt_succ_self _) _) (p := ⟨w.heap.size, 4, none⟩) (Nat.lt_succ_self _) _) (p := ⟨w.heap.size, 5, none⟩) (Nat.lt_succ_self _) _) (p := ⟨w.heap.size, 6, none⟩) (Nat.lt_succ_self _) _) (p := ⟨w.heap.size, 7, none⟩) (Nat.lt_succ_self _) _).more (Nat.le_succ _)), ((Own.setLt (Own.setLt (Own.setLt (Own.setLt (Own.setLt (Own.setLt (Own.setLt (Own.setLt HP.out.o2 (p := ⟨w.heap.size, 0, none⟩) (Nat.lt_succ_self _) _) (p := ⟨w.heap.size, 1, none⟩) (Nat.lt_succ_self _) _) (p := ⟨w.heap.size, 2, none⟩) (Nat.lt_succ_self _) _) (p := ⟨w.heap.size, 3, none⟩) (Nat.lt_succ_self _) _) (p := ⟨w.heap.size, 4, none⟩) (Nat.lt_succ_self _) _) (p := ⟨w.heap.size, 5, none⟩) (Nat.lt_succ_self _) _) (p := ⟨w.heap.size, 6, none⟩) (Nat.lt_succ_self _) _) (p := ⟨w.heap.size, 7, none⟩) (Nat.lt_succ_self _) _).more (Nat.le_succ _))⟩, ((((((((HP.out.fl.bx.setCell (p := ⟨w.heap.size, 0, none⟩) (Nat.le_refl _) hlb _).setCell (p := ⟨w.heap.size, 1, none⟩) (Nat.le_refl _) hlb _).setCell (p := ⟨w.heap.size, 2, none⟩) (Nat.le_refl _) hlb _).setCell (p := ⟨w.heap.size, 3, none⟩) (Nat.le_refl _) hlb _).setCell (p := ⟨w.heap.size, 4, none⟩) (Nat.le_refl _) hlb _).setCell (p := ⟨w.heap.size, 5, none⟩) (Nat.le_refl _) hlb _).setCell (p := ⟨w.heap.size, 6, none⟩) (Nat.le_refl _) hlb _).setCell (p := ⟨w.heap.size, 7, none⟩) (Nat.le_refl _) hlb _)⟩
  · go_wp2_with fail
    go_at_call 94
    with_reducible refine (l02DrawAny_any b A n c bs B _ HP2.out.fl.inv).mono ?_
    rintro e3 w3 ⟨u3, rfl, ⟨X0, X1, X2, rfl⟩, hb3⟩
    have HP3 := Lib.hid (HP2.out.step hb3)
    obtain ⟨y0, y1, y2, y3, y4, y5, y6, y7, yf⟩ := blk8 HP3.out.fl.k
    have hg3 := HP3.out.fl.l1
    clear hb3
    go_upto_region 18 with fail
    refine gen_worldF (P := fun W' => Code.wp _ _ _ _ W') (Q := fun W' => FaP (srcP 106 b A n c bs B) w g s kind X0 X1 X2 col v1 v2 sz lv W') HP3.out.set234 ?_
    rintro W' hp
    have HP := Lib.hid hp
    clear hp
    clear y0 y1 y2 y3 y4 y5 y6 y7 yf
    obtain ⟨AF1, cF1, eF1, -⟩ := HP.out.o1.shape
    obtain ⟨AF2, cF2, eF2, -⟩ := HP.out.o2.shape
    subst eF1 eF2
    obtain ⟨y0, y1, y2, y3, y4, y5, y6, y7, -⟩ := blk8 HP.out.fl.k
    obtain ⟨z0, z1, z2, z3, z4, z5, z6, z7, zf⟩ := blk8 HP.out.fl.z
    obtain ⟨s0, s1, s2, s3, s4, s5, s6, s7, -⟩ := blk8 (res8 HP.out.fl.z (.string s) (.int .i64 kind) (.int .i64 X0) (.int .i64 X1) (.int .i64 X2) (.slice AF1 sz.length cF1) (.int .i64 col) (.slice AF2 lv.length cF2))
    have hl0 := HP.out.fl.l0
    have hl1 := HP.out.fl.l1
    have hlb := HP.out.fl.lb
    go_wp2_with fail
    (try simp only [Exit.inBlock, Exit.then]); refine bodyPost_ret (by simp [results, Try.results56, go_sem, s0, s1, s2, s3, s4, s5, s6, s7]; try rfl) rfl ?_
    exact ⟨_, rfl, ⟨_, _, _, _, _, _, _, _, _, _, rfl, HP.out.bd, ((Own.setLt (Own.setLt (Own.setLt (Own.setLt (Own.setLt (Own.setLt (Own.setLt (Own.setLt HP.out.o1 (p := ⟨w.heap.size, 0, none⟩) (Nat.lt_succ_self _) _) (p := ⟨w.heap.size, 1, none⟩) (Nat.lt_succ_self _) _) (p := ⟨w.heap.size, 2, none⟩) (Nat.lt_succ_self _) _) (p := ⟨w.heap.size, 3, none⟩) (Nat.lt_succ_self _) _) (p := ⟨w.heap.size, 4, none⟩) (Nat.lt_succ_self _) _) (p := ⟨w.heap.size, 5, none⟩) (Nat.lt_succ_self _) _) (p := ⟨w.heap.size, 6, none⟩) (Nat.lt_succ_self _) _) (p := ⟨w.heap.size, 7, none⟩) (Nat.lt_succ_self _) _).more (Nat.le_succ _)), ((Own.setLt (Own.setLt (Own.setLt (Own.setLt (Own.setLt (Own.setLt (Own.setLt (Own.setLt HP.out.o2 (p := ⟨w.heap.size, 0, none⟩) (Nat.lt_succ_self _) _) (p := ⟨w.heap.size, 1, none⟩) (Nat.lt_succ_self _) _) (p := ⟨w.heap.size, 2, none⟩) (Nat.lt_succ_self _) _) (p := ⟨w.heap.size, 3, none⟩) (Nat.lt_succ_self _) _) (p := ⟨w.heap.size, 4, none⟩) (Nat.lt_succ_self _) _) (p := ⟨w.heap.size, 5, none⟩) (Nat.lt_succ_self _) _) (p := ⟨w.heap.size, 6, none⟩) (Nat.lt_succ_self _) _) (p := ⟨w.heap.size, 7, none⟩) (Nat.lt_succ_self _) _).more (Nat.le_succ _))⟩, ((((((((HP.out.fl.bx.setCell (p := ⟨w.heap.size, 0, none⟩) (Nat.le_refl _) hlb _).setCell (p := ⟨w.heap.size, 1, none⟩) (Nat.le_refl _) hlb _).setCell (p := ⟨w.heap.size, 2, none⟩) (Nat.le_refl _) hlb _).setCell (p := ⟨w.heap.size, 3, none⟩) (Nat.le_refl _) hlb _).setCell (p := ⟨w.heap.size, 4, none⟩) (Nat.le_refl _) hlb _).setCell (p := ⟨w.heap.size, 5, none⟩) (Nat.le_refl _) hlb _).setCell (p := ⟨w.heap.size, 6, none⟩) (Nat.le_refl _) hlb _).setCell (p := ⟨w.heap.size, 7, none⟩) (Nat.le_refl _) hlb _)⟩
  · have HF := Lib.hid (show ∀ w, Calls Try.prog 68 #[.int .i64 8] w fun e w' => ∃ u, e = .returned u ∧ FldC u ∧ Below w.heap.size w w' from fun w => sFieldOf_some 8 w (by decide) (by decide))
    go_wp2_with fail
    go_at_call 68
    with_reducible refine (HF.out _).mono ?_
    rintro e3 w3 ⟨u3, rfl, hfc, hb3⟩
    obtain ⟨X0, X1, X2, cc, rfl⟩ := hfc
    have HP3 := Lib.hid (HP2.out.below hb3)
    have hg3 := HP3.out.fl.l1
    have hww3 := HP3.out.fl.l0
    clear hb3
    go_upto_region 17 with fail
    obtain ⟨q, hq⟩ : ∃ q, w3.heap.size = q := ⟨_, rfl⟩
    refine gen_worldF (P := fun W' => Code.wp _ _ _ _ W') (Q := fun W' => FaP (srcP 106 b A n c bs B) w g s kind p k gg col v1 v2 sz lv W' ∧ W'.heap[q]? = some (.cells #[.int .i64 X0, .int .i64 X1, .int .i64 X2] 28 (0, 0))) ⟨HP3.out.alloc _, by rw [← hq]; exact heap_alloc_new _ _⟩ ?_
    rintro W3 ⟨hp4, hk4⟩
    have HP4 := Lib.hid hp4
    obtain ⟨x0, x1, x2, -⟩ := blk3 hk4
    have hq4 := lt_of_block hk4
    rw [hq]
    have hg4 := HP4.out.fl.l1
    have hl4 := HP4.out.fl.l0
    have hget := fun i hi => allocs_get [.cells #[.int .i64 17, .int .i64 33, .int .i64 41] 2, .cells #[.int .i64 30, .int .i64 80] 2] W3 i hi
    have HO5 := Lib.hid (own_lit (W := (W3.alloc (.cells #[.int .i64 17, .int .i64 33, .int .i64 41] 2)).alloc (.cells #[.int .i64 30, .int .i64 80] 2)) (B := w.heap.size + 1) (xs := [17, 33, 41]) (g := W3.heap.size) (hget 0 (by decide)) (by omega) rfl (by decide))
    have HO7 := Lib.hid (own_lit (W := (W3.alloc (.cells #[.int .i64 17, .int .i64 33, .int .i64 41] 2)).alloc (.cells #[.int .i64 30, .int .i64 80] 2)) (B := w.heap.size + 1) (xs := [30, 80]) (g := W3.heap.size + 1) (hget 1 (by decide)) (by omega) rfl (by decide))
    have HP5 := Lib.hid ((HP4.out.alloc (.cells #[.int .i64 17, .int .i64 33, .int .i64 41] 2)).alloc (.cells #[.int .i64 30, .int .i64 80] 2))
    have hgne0 : W3.heap.size ≠ g := by omega
    have hgne1 : W3.heap.size + 1 ≠ g := by omega
    obtain ⟨W5, hW5⟩ : ∃ W5, (W3.alloc (.cells #[.int .i64 17, .int .i64 33, .int .i64 41] 2)).alloc (.cells #[.int .i64 30, .int .i64 80] 2) = W5 := ⟨_, rfl⟩
    rw [hW5] at HP5 HO5 HO7
    obtain ⟨y0, y1, y2, y3, y4, y5, y6, y7, yf⟩ := blk8 HP5.out.fl.k
    clear hp4 hk4 hget
    go_upto_region 18 with fail
    clear hW5
    go_upto_region 18 with fail
    refine gen_worldF (P := fun W' => Code.wp _ _ _ _ W') (Q := fun W' => ∃ (v1 v2 : Value) (xs ys : List Int), FaP (srcP 106 b A n c bs B) w g ⟨#[115, 109, 97, 108, 108]⟩ 1 X0 X1 X2 0 v1 v2 xs ys W') ⟨_, _, [17, 33, 41], [30, 80], ⟨FlP.to ((((((((HP5.out.fl.set 0 (.string ⟨#[115, 109, 97, 108, 108]⟩)).set 1 (.int .i64 1)).set 2 (.int .i64 X0)).set 3 (.int .i64 X1)).set 4 (.int .i64 X2)).set 5 (.slice (some ⟨W3.heap.size, 0, none⟩) 3 3)).set 6 (.int .i64 0)).set 7 (.slice (some ⟨W3.heap.size + 1, 0, none⟩) 2 2)) rfl, (Own.setFar (Own.setFar (Own.setFar (Own.setFar (Own.setFar (Own.setFar (Own.setFar (Own.setFar HO5.out (p := ⟨g, 0, none⟩) (fun j hj => by simp [Value.ownBlock] at hj; show j ≠ g; omega) (.string ⟨#[115, 109, 97, 108, 108]⟩)) (p := ⟨g, 1, none⟩) (fun j hj => by simp [Value.ownBlock] at hj; show j ≠ g; omega) (.int .i64 1)) (p := ⟨g, 2, none⟩) (fun j hj => by simp [Value.ownBlock] at hj; show j ≠ g; omega) (.int .i64 X0)) (p := ⟨g, 3, none⟩) (fun j hj => by simp [Value.ownBlock] at hj; show j ≠ g; omega) (.int .i64 X1)) (p := ⟨g, 4, none⟩) (fun j hj => by simp [Value.ownBlock] at hj; show j ≠ g; omega) (.int .i64 X2)) (p := ⟨g, 5, none⟩) (fun j hj => by simp [Value.ownBlock] at hj; show j ≠ g; omega) (.slice (some ⟨W3.heap.size, 0, none⟩) 3 3)) (p := ⟨g, 6, none⟩) (fun j hj => by simp [Value.ownBlock] at hj; show j ≠ g; omega) (.int .i64 0)) (p := ⟨g, 7, none⟩) (fun j hj => by simp [Value.ownBlock] at hj; show j ≠ g; omega) (.slice (some ⟨W3.heap.size + 1, 0, none⟩) 2 2)), (Own.setFar (Own.setFar (Own.setFar (Own.setFar (Own.setFar (Own.setFar (Own.setFar (Own.setFar HO7.out (p := ⟨g, 0, none⟩) (fun j hj => by simp [Value.ownBlock] at hj; show j ≠ g; omega) (.string ⟨#[115, 109, 97, 108, 108]⟩)) (p := ⟨g, 1, none⟩) (fun j hj => by simp [Value.ownBlock] at hj; show j ≠ g; omega) (.int .i64 1)) (p := ⟨g, 2, none⟩) (fun j hj => by simp [Value.ownBlock] at hj; show j ≠ g; omega) (.int .i64 X0)) (p := ⟨g, 3, none⟩) (fun j hj => by simp [Value.ownBlock] at hj; show j ≠ g; omega) (.int .i64 X1)) (p := ⟨g, 4, none⟩) (fun j hj => by simp [Value.ownBlock] at hj; show j ≠ g; omega) (.int .i64 X2)) (p := ⟨g, 5, none⟩) (fun j hj => by simp [Value.ownBlock] at hj; show j ≠ g; omega) (.slice (some ⟨W3.heap.size, 0, none⟩) 3 3)) (p := ⟨g, 6, none⟩) (fun j hj => by simp [Value.ownBlock] at hj; show j ≠ g; omega) (.int .i64 0)) (p := ⟨g, 7, none⟩) (fun j hj => by simp [Value.ownBlock] at hj; show j ≠ g; omega) (.slice (some ⟨W3.heap.size + 1, 0, none⟩) 2 2)), (fun j hj => by simp [Value.ownBlock] at hj; omega), (fun j hj => by simp [Value.ownBlock] at hj; omega), by decide⟩⟩ ?_
    rintro W' ⟨v1, v2, xs, ys, hp⟩
    have HP := Lib.hid hp
    clear hp
    clear y0 y1 y2 y3 y4 y5 y6 y7 yf HO5 HO7 HP5
    obtain ⟨AF1, cF1, eF1, -⟩ := HP.out.o1.shape
    obtain ⟨AF2, cF2, eF2, -⟩ := HP.out.o2.shape
    subst eF1 eF2
    obtain ⟨y0, y1, y2, y3, y4, y5, y6, y7, -⟩ := blk8 HP.out.fl.k
    obtain ⟨z0, z1, z2, z3, z4, z5, z6, z7, zf⟩ := blk8 HP.out.fl.z
    obtain ⟨s0, s1, s2, s3, s4, s5, s6, s7, -⟩ := blk8 (res8 HP.out.fl.z (.string ⟨#[115, 109, 97, 108, 108]⟩) (.int .i64 1) (.int .i64 X0) (.int .i64 X1) (.int .i64 X2) (.slice AF1 xs.length cF1) (.int .i64 0) (.slice AF2 ys.length cF2))
    have hl0 := HP.out.fl.l0
    have hl1 := HP.out.fl.l1
    have hlb := HP.out.fl.lb
    go_wp2_with fail
    (try simp only [Exit.inBlock, Exit.then]); refine bodyPost_ret (by simp [results, Try.results56, go_sem, s0, s1, s2, s3, s4, s5, s6, s7]; try rfl) rfl ?_
    exact ⟨_, rfl, ⟨_, _, _, _, _, _, _, _, _, _, rfl, HP.out.bd, ((Own.setLt (Own.setLt (Own.setLt (Own.setLt (Own.setLt (Own.setLt (Own.setLt (Own.setLt HP.out.o1 (p := ⟨w.heap.size, 0, none⟩) (Nat.lt_succ_self _) _) (p := ⟨w.heap.size, 1, none⟩) (Nat.lt_succ_self _) _) (p := ⟨w.heap.size, 2, none⟩) (Nat.lt_succ_self _) _) (p := ⟨w.heap.size, 3, none⟩) (Nat.lt_succ_self _) _) (p := ⟨w.heap.size, 4, none⟩) (Nat.lt_succ_self _) _) (p := ⟨w.heap.size, 5, none⟩) (Nat.lt_succ_self _) _) (p := ⟨w.heap.size, 6, none⟩) (Nat.lt_succ_self _) _) (p := ⟨w.heap.size, 7, none⟩) (Nat.lt_succ_self _) _).more (Nat.le_succ _)), ((Own.setLt (Own.setLt (Own.setLt (Own.setLt (Own.setLt (Own.setLt (Own.setLt (Own.setLt HP.out.o2 (p := ⟨w.heap.size, 0, none⟩) (Nat.lt_succ_self _) _) (p := ⟨w.heap.size, 1, none⟩) (Nat.lt_succ_self _) _) (p := ⟨w.heap.size, 2, none⟩) (Nat.lt_succ_self _) _) (p := ⟨w.heap.size, 3, none⟩) (Nat.lt_succ_self _) _) (p := ⟨w.heap.size, 4, none⟩) (Nat.lt_succ_self _) _) (p := ⟨w.heap.size, 5, none⟩) (Nat.lt_succ_self _) _) (p := ⟨w.heap.size, 6, none⟩) (Nat.lt_succ_self _) _) (p := ⟨w.heap.size, 7, none⟩) (Nat.lt_succ_self _) _).more (Nat.le_succ _))⟩, ((((((((HP.out.fl.bx.setCell (p := ⟨w.heap.size, 0, none⟩) (Nat.le_refl _) hlb _).setCell (p := ⟨w.heap.size, 1, none⟩) (Nat.le_refl _) hlb _).setCell (p := ⟨w.heap.size, 2, none⟩) (Nat.le_refl _) hlb _).setCell (p := ⟨w.heap.size, 3, none⟩) (Nat.le_refl _) hlb _).setCell (p := ⟨w.heap.size, 4, none⟩) (Nat.le_refl _) hlb _).setCell (p := ⟨w.heap.size, 5, none⟩) (Nat.le_refl _) hlb _).setCell (p := ⟨w.heap.size, 6, none⟩) (Nat.le_refl _) hlb _).setCell (p := ⟨w.heap.size, 7, none⟩) (Nat.le_refl _) hlb _)⟩
  · have e0 : (r2 == 0) = false := by simp; omega
    have e1 : (r2 == 1) = false := by simp; omega
    have e2 : (r2 == 2) = false := by simp; omega
    have e3 : (r2 == 3) = false := by simp; omega
    have e4 : (r2 == 4) = false := by simp; omega
    have e5 : (r2 == 5) = false := by simp; omega
    have e6 : (r2 == 6) = false := by simp; omega
    obtain ⟨AF1, cF1, eF1, -⟩ := HP2.out.o1.shape
    obtain ⟨AF2, cF2, eF2, -⟩ := HP2.out.o2.shape
    subst eF1 eF2
    obtain ⟨y0, y1, y2, y3, y4, y5, y6, y7, -⟩ := blk8 HP2.out.fl.k
    obtain ⟨z0, z1, z2, z3, z4, z5, z6, z7, zf⟩ := blk8 HP2.out.fl.z
    obtain ⟨s0, s1, s2, s3, s4, s5, s6, s7, -⟩ := blk8 (res8 HP2.out.fl.z (.string s) (.int .i64 kind) (.int .i64 p) (.int .i64 k) (.int .i64 gg) (.slice AF1 sz.length cF1) (.int .i64 col) (.slice AF2 lv.length cF2))
    have hl0 := HP2.out.fl.l0
    have hl1 := HP2.out.fl.l1
    have hlb := HP2.out.fl.lb
    go_wp2_with fail
    (try simp only [Exit.inBlock, Exit.then]); refine bodyPost_ret (by simp [results, Try.results56, go_sem, s0, s1, s2, s3, s4, s5, s6, s7]; try rfl) rfl ?_
    exact ⟨_, rfl, ⟨_, _, _, _, _, _, _, _, _, _, rfl, HP2.out.bd, ((Own.setLt (Own.setLt (Own.setLt (Own.setLt (Own.setLt (Own.setLt (Own.setLt (Own.setLt HP2.out.o1 (p := ⟨w.heap.size, 0, none⟩) (Nat.lt_succ_self _) _) (p := ⟨w.heap.size, 1, none⟩) (Nat.lt_succ_self _) _) (p := ⟨w.heap.size, 2, none⟩) (Nat.lt_succ_self _) _) (p := ⟨w.heap.size, 3, none⟩) (Nat.lt_succ_self _) _) (p := ⟨w.heap.size, 4, none⟩) (Nat.lt_succ_self _) _) (p := ⟨w.heap.size, 5, none⟩) (Nat.lt_succ_self _) _) (p := ⟨w.heap.size, 6, none⟩) (Nat.lt_succ_self _) _) (p := ⟨w.heap.size, 7, none⟩) (Nat.lt_succ_self _) _).more (Nat.le_succ _)), ((Own.setLt (Own.setLt (Own.setLt (Own.setLt (Own.setLt (Own.setLt (Own.setLt (Own.setLt HP2.out.o2 (p := ⟨w.heap.size, 0, none⟩) (Nat.lt_succ_self _) _) (p := ⟨w.heap.size, 1, none⟩) (Nat.lt_succ_self _) _) (p := ⟨w.heap.size, 2, none⟩) (Nat.lt_succ_self _) _) (p := ⟨w.heap.size, 3, none⟩) (Nat.lt_succ_self _) _) (p := ⟨w.heap.size, 4, none⟩) (Nat.lt_succ_self _) _) (p := ⟨w.heap.size, 5, none⟩) (Nat.lt_succ_self _) _) (p := ⟨w.heap.size, 6, none⟩) (Nat.lt_succ_self _) _) (p := ⟨w.heap.size, 7, none⟩) (Nat.lt_succ_self _) _).more (Nat.le_succ _))⟩, ((((((((HP2.out.fl.bx.setCell (p := ⟨w.heap.size, 0, none⟩) (Nat.le_refl _) hlb _).setCell (p := ⟨w.heap.size, 1, none⟩) (Nat.le_refl _) hlb _).setCell (p := ⟨w.heap.size, 2, none⟩) (Nat.le_refl _) hlb _).setCell (p := ⟨w.heap.size, 3, none⟩) (Nat.le_refl _) hlb _).setCell (p := ⟨w.heap.size, 4, none⟩) (Nat.le_refl _) hlb _).setCell (p := ⟨w.heap.size, 5, none⟩) (Nat.le_refl _) hlb _).setCell (p := ⟨w.heap.size, 6, none⟩) (Nat.le_refl _) hlb _).setCell (p := ⟨w.heap.size, 7, none⟩) (Nat.le_refl _) hlb _)⟩
end Go.Proofs.Ytbgcbjfimjfbpaa
