/-
  What stays as it was while a law looks at the grid that a sampling of a raster has made; the laws' mark on rasters.
-/
import Derived.Test.YtflpllmbpfdnjaaC26G
import Derived.Test.YtflpllmbpfdnjaaRas
namespace Go.Proofs.Ytflpllmbpfdnjaa
set_option linter.unusedSimpArgs false
open Go.RowKit

theorem markRaster_any (r c : Int) (v : Value) (xs : List Int) (m : Int) (w : World) (B : Nat) (ho : Own w B v xs) (hn : xs.length ≤ 1000000000000) (hm0 : 0 ≤ m) (hm1 : m ≤ 1000000000000) :
    Calls Try.prog 20 #[.agg #[.int .i64 r, .int .i64 c, v], .int .i64 m] w fun e w' => e = .returned (.int .i64 (m + xs.length)) ∧ Own w' B v (marks m xs.length) ∧ w.grownBy w' v.ownBlock := by
  have HE := Lib.hid (fun (w' : World) (ho' : Own w' B v xs) => markInt64S_any v xs m w' B ho' hn hm0 hm1)
  have HO := Lib.hid ho
  obtain ⟨A, cp, rfl, hr⟩ := ho.shape
  clear ho hr
  go_enter Try.func20, Try.ntmps20
  go_wp2_with (go_at_call 53; refine (HE.out _ (HO.out.keep (by go_grown))).mono ?_; rintro e1 w1 ⟨rfl, ho1, hg1⟩)
  go_ret
  exact ⟨rfl, ho1, grown_trans' (grown_alloc' (World.grownBy.refl _ _) _) hg1⟩
theorem Own.riS {w : World} {B n c : Nat} {A : Option Addr} {xs : List Int} (h : Own w B (.slice A n c) xs) (hl : xs.length = n) : RI w w.heap.size A n xs := by
  obtain ⟨A', c', e, hr⟩ := h.shape
  simp only [Value.slice.injEq] at e
  obtain ⟨rfl, -, -⟩ := e
  rwa [hl] at hr
theorem blk3s {w : World} {b t : Nat} {x y z : Value} (h : w.heap[b]? = some (.cells #[x, y, z] t (0, 0))) : w.cell? ⟨b, 0, none⟩ = some x ∧ w.cell? ⟨b, 1, none⟩ = some y ∧ w.cell? ⟨b, 2, none⟩ = some z := ⟨(blk3 h).1, (blk3 h).2.1, (blk3 h).2.2.1⟩
theorem blk3e {w : World} {b t p : Nat} {x y z u v q : Value} (h : w.heap[b]? = some (.cells #[x, y, z] t (0, 0))) (hp : b ≠ p) : (((w.setCell ⟨p, 0, none⟩ u).setCell ⟨p, 1, none⟩ v).setCell ⟨p, 2, none⟩ q).cell? ⟨b, 0, none⟩ = some x ∧ (((w.setCell ⟨p, 0, none⟩ u).setCell ⟨p, 1, none⟩ v).setCell ⟨p, 2, none⟩ q).cell? ⟨b, 1, none⟩ = some y ∧ (((w.setCell ⟨p, 0, none⟩ u).setCell ⟨p, 1, none⟩ v).setCell ⟨p, 2, none⟩ q).cell? ⟨b, 2, none⟩ = some z :=
  blk3s (blk_other (blk_other (blk_other h hp) hp) hp)
theorem BxG.set3 {g p : Nat} {r c : Int} {A : Option Addr} {n cp : Nat} {m0 m1 m2 m3 m4 m5 m6 m7 m8 R C lim mar : Int} {t1 t2 t3 : Nat} {w : World} {u v q : Value} (h : BxG g r c A n cp m0 m1 m2 m3 m4 m5 m6 m7 m8 R C lim mar t1 t2 t3 w) (hp : g + 1 + 1 < p) : BxG g r c A n cp m0 m1 m2 m3 m4 m5 m6 m7 m8 R C lim mar t1 t2 t3 (((w.setCell ⟨p, 0, none⟩ u).setCell ⟨p, 1, none⟩ v).setCell ⟨p, 2, none⟩ q) :=
  ⟨blk_other (blk_other (blk_other h.1 (by omega)) (by omega)) (by omega), blk_other (blk_other (blk_other h.2.1 (by omega)) (by omega)) (by omega), blk_other (blk_other (blk_other h.2.2 (by omega)) (by omega)) (by omega)⟩
theorem BxG.allocS {g : Nat} {r c : Int} {A : Option Addr} {n cp : Nat} {m0 m1 m2 m3 m4 m5 m6 m7 m8 R C lim mar : Int} {t1 t2 t3 : Nat} {w : World} {u : Obj} (h : BxG g r c A n cp m0 m1 m2 m3 m4 m5 m6 m7 m8 R C lim mar t1 t2 t3 w) (hp : g + 1 + 1 < w.heap.size) : BxG g r c A n cp m0 m1 m2 m3 m4 m5 m6 m7 m8 R C lim mar t1 t2 t3 (w.alloc u) :=
  ⟨blk_alloc h.1 (by omega), blk_alloc h.2.1 (by omega), blk_alloc h.2.2 (by omega)⟩
theorem BxG.drewS {g : Nat} {r c : Int} {A : Option Addr} {n cp : Nat} {m0 m1 m2 m3 m4 m5 m6 m7 m8 R C lim mar : Int} {t1 t2 t3 : Nat} {w : World} (h : BxG g r c A n cp m0 m1 m2 m3 m4 m5 m6 m7 m8 R C lim mar t1 t2 t3 w) : BxG g r c A n cp m0 m1 m2 m3 m4 m5 m6 m7 m8 R C lim mar t1 t2 t3 w.drew := h
theorem blk3a {w : World} {b t : Nat} {x y z : Value} {u : Obj} (h : w.heap[b]? = some (.cells #[x, y, z] t (0, 0))) (hb : b < w.heap.size) : (w.alloc u).cell? ⟨b, 0, none⟩ = some x ∧ (w.alloc u).cell? ⟨b, 1, none⟩ = some y ∧ (w.alloc u).cell? ⟨b, 2, none⟩ = some z := blk3s (blk_alloc h hb)
theorem sameS {B : Nat} {W w' : World} (h : Below B W w') : ∀ b o, b < B → w'.cell? ⟨b, o, none⟩ = W.cell? ⟨b, o, none⟩ := fun b o hb => h.cell (p := ⟨b, o, none⟩) hb
theorem sameS_set3 {B p : Nat} {W w : World} {x y z : Value} (h : Below B W w) (hp : B ≤ p) : ∀ b o, b < B → (((w.setCell ⟨p, 0, none⟩ x).setCell ⟨p, 1, none⟩ y).setCell ⟨p, 2, none⟩ z).cell? ⟨b, o, none⟩ = W.cell? ⟨b, o, none⟩ := sameS (((h.setCell hp _).setCell hp _).setCell hp _)
theorem sameS_alloc {B : Nat} {W w : World} {u : Obj} (h : Below B W w) (hB : B ≤ w.heap.size) : ∀ b o, b < B → (w.alloc u).cell? ⟨b, o, none⟩ = W.cell? ⟨b, o, none⟩ := sameS (h.alloc hB _)
/-- The three boxes of the arguments at g; the block bs of the reference's grid, the block bx of the copy, the block bg of the program's grid; the grid's own row made behind bx and not in bg, the reference's row below mb. -/
structure SmP (w0 : World) (pr pc : Int) (A : Option Addr) (n cp : Nat) (m0 m1 m2 m3 m4 m5 m6 m7 m8 : Int) (R C lim mar : Int) (t1 t2 t3 : Nat) (bs mb bx bg : Nat) (os ox og : Obj) (v : Value) (es : List Int) (As : Option Addr) (L : Nat) (ps : List Int) (w : World) : Prop where
  sz : w0.heap.size + 1 + 1 < bs ∧ bs < mb ∧ mb ≤ bx ∧ bx < bg ∧ bg < w.heap.size
  bw : Below w0.heap.size w0 w
  kb : BxG w0.heap.size pr pc A n cp m0 m1 m2 m3 m4 m5 m6 m7 m8 R C lim mar t1 t2 t3 w
  ks : w.heap[bs]? = some os
  kx : w.heap[bx]? = some ox
  kg : w.heap[bg]? = some og
  own : Own w (bx + 1) v es
  row : ∀ k, v.ownBlock = some k → k ≠ bg
  ra : RI w mb As L ps
section
variable {w0 w w' : World} {pr pc : Int} {A : Option Addr} {n cp : Nat} {m0 m1 m2 m3 m4 m5 m6 m7 m8 R C lim mar : Int} {t1 t2 t3 : Nat} {bs mb bx bg : Nat} {os ox og : Obj} {v : Value} {es es' : List Int} {As : Option Addr} {L : Nat} {ps : List Int}
theorem BxG.block {g : Nat} (h : BxG g pr pc A n cp m0 m1 m2 m3 m4 m5 m6 m7 m8 R C lim mar t1 t2 t3 w) (h0 : w'.heap[g]? = w.heap[g]?) (h1 : w'.heap[g + 1]? = w.heap[g + 1]?) (h2 : w'.heap[g + 1 + 1]? = w.heap[g + 1 + 1]?) : BxG g pr pc A n cp m0 m1 m2 m3 m4 m5 m6 m7 m8 R C lim mar t1 t2 t3 w' :=
  ⟨h0.trans h.1, h1.trans h.2.1, h2.trans h.2.2⟩
theorem SmP.below (h : SmP w0 pr pc A n cp m0 m1 m2 m3 m4 m5 m6 m7 m8 R C lim mar t1 t2 t3 bs mb bx bg os ox og v es As L ps w) (hb : Below w.heap.size w w') : SmP w0 pr pc A n cp m0 m1 m2 m3 m4 m5 m6 m7 m8 R C lim mar t1 t2 t3 bs mb bx bg os ox og v es As L ps w' := by
  obtain ⟨⟨h1, h2, h3, h4, h5⟩, hB, kb, k0, k1, k2, ho, hr, ra⟩ := h
  have hs := hb.size
  exact ⟨⟨h1, h2, h3, h4, by omega⟩, hB.trans (hb.mono (by omega)), kb.below hb (by omega), (hb.block _ (by omega)).trans k0, (hb.block _ (by omega)).trans k1, (hb.block _ (by omega)).trans k2, ho.keep hb, hr, ra.below (hb.mono (by omega))⟩
theorem SmP.rowx {r : Option Nat} (h : SmP w0 pr pc A n cp m0 m1 m2 m3 m4 m5 m6 m7 m8 R C lim mar t1 t2 t3 bs mb bx bg os ox og v es As L ps w) (hg : w.grownBy w' r) (hr : ∀ k, r = some k → mb ≤ k ∧ k < bx) : SmP w0 pr pc A n cp m0 m1 m2 m3 m4 m5 m6 m7 m8 R C lim mar t1 t2 t3 bs mb bx bg os ox og v es As L ps w' := by
  obtain ⟨⟨h1, h2, h3, h4, h5⟩, hB, kb, k0, k1, k2, ho, hv, ra⟩ := h
  have hs := hg.size
  have hk : Own w' (bx + 1) v es := World.ownsRow.kept ho hg (by
    cases hv : v.ownBlock with
    | none => exact .inl rfl
    | some k => exact .inr fun e => by have a := (World.ownsRow.lt ho k hv).1; have b := (hr k e.symm).2; omega)
  exact ⟨⟨h1, h2, h3, h4, by omega⟩, hB.grown hg (by omega) (fun k e => by have := (hr k e).1; omega),
    kb.block (hg.block _ (by omega) (fun e => by have := (hr _ e.symm).1; omega)) (hg.block _ (by omega) (fun e => by have := (hr _ e.symm).1; omega)) (hg.block _ (by omega) (fun e => by have := (hr _ e.symm).1; omega)),
    (hg.block _ (by omega) (fun e => by have := (hr _ e.symm).1; omega)).trans k0, (hg.block _ (by omega) (fun e => by have := (hr _ e.symm).2; omega)).trans k1, (hg.block _ (by omega) (fun e => by have := (hr _ e.symm).2; omega)).trans k2,
    hk, hv, ra.grown hg (by omega) (fun k e => by have := (hr k e).1; omega)⟩
theorem SmP.mark (h : SmP w0 pr pc A n cp m0 m1 m2 m3 m4 m5 m6 m7 m8 R C lim mar t1 t2 t3 bs mb bx bg os ox og v es As L ps w) (ho : Own w' (bx + 1) v es') (hg : w.grownBy w' v.ownBlock) : SmP w0 pr pc A n cp m0 m1 m2 m3 m4 m5 m6 m7 m8 R C lim mar t1 t2 t3 bs mb bx bg os ox og v es' As L ps w' := by
  obtain ⟨⟨h1, h2, h3, h4, h5⟩, hB, kb, k0, k1, k2, ho0, hv, ra⟩ := h
  have hs := hg.size
  have hr : ∀ k, v.ownBlock = some k → bx < k ∧ k ≠ bg := fun k e => ⟨(World.ownsRow.lt ho0 k e).1, hv k e⟩
  exact ⟨⟨h1, h2, h3, h4, by omega⟩, hB.grown hg (by omega) (fun k e => by have := (hr k e).1; omega),
    kb.block (hg.block _ (by omega) (fun e => by have := (hr _ e.symm).1; omega)) (hg.block _ (by omega) (fun e => by have := (hr _ e.symm).1; omega)) (hg.block _ (by omega) (fun e => by have := (hr _ e.symm).1; omega)),
    (hg.block _ (by omega) (fun e => by have := (hr _ e.symm).1; omega)).trans k0, (hg.block _ (by omega) (fun e => by have := (hr _ e.symm).1; omega)).trans k1, (hg.block _ (by omega) (fun e => by have := (hr _ e.symm).2; omega)).trans k2,
    ho, hv, ra.grown hg (by omega) (fun k e => by have := (hr k e).1; omega)⟩
end
/-- Behind a region that has made a grid and laid it into the block g, grown from wB. -/
structure CutR (wB : World) (o : Obj) (v : Value) (xs : List Int) (g : Nat) (w : World) : Prop where
  lo : wB.heap.size ≤ g
  hi : g < w.heap.size
  blk : w.heap[g]? = some o
  bw : Below wB.heap.size wB w
  own : Own w wB.heap.size v xs
  ne : ∀ k, v.ownBlock = some k → k ≠ g
theorem CutR.last {wB w4 : World} {cs : Array Value} {t B : Nat} {v : Value} {xs : List Int} (hb : Below wB.heap.size wB w4) (ho : Own w4 B v xs) (hB : wB.heap.size ≤ B) : CutR wB (.cells cs t (0, 0)) v xs w4.heap.size (w4.alloc (.cells cs t)) :=
  ⟨hb.size, by simp, heap_alloc_new _ _, hb.alloc hb.size _, (ho.keep ((Below.refl _ _).alloc (Nat.le_refl _) _)).more hB, fun k e => by have := (World.ownsRow.lt ho k e).2; omega⟩
theorem CutR.early {wB w4 : World} {a b c x y z : Value} {t B g : Nat} {v : Value} {xs : List Int} (hb : Below wB.heap.size wB w4) (ho : Own w4 B v xs) (hB : wB.heap.size ≤ B) (hg : g < B) (h0 : wB.heap.size ≤ g) (hi : g < w4.heap.size) (hs : w4.heap[g]? = some (.cells #[a, b, c] t (0, 0))) :
    CutR wB (.cells #[x, y, z] t (0, 0)) v xs g (((w4.setCell ⟨g, 0, none⟩ x).setCell ⟨g, 1, none⟩ y).setCell ⟨g, 2, none⟩ z) :=
  ⟨h0, by simpa using hi, blk3_2 (blk3_1 (blk3_0 hs)), ((hb.setCell h0 _).setCell h0 _).setCell h0 _, (((ho.setLt hg _).setLt hg _).setLt hg _).more hB, fun k e => by have := (World.ownsRow.lt ho k e).1; omega⟩
end Go.Proofs.Ytflpllmbpfdnjaa
