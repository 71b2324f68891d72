/-
  The row FnSampledPrints: a printed grid is sampled through the map of its place in all three ways, for every grid and print that a code draws; no condition. Printed by gen/lsp.py.
-/
import Derived.Test.YtflpllmbpfdnjaaC26G
import Derived.Test.YtflpllmbpfdnjaaRas
import Derived.Test.YtflpllmbpfdnjaaArgB
import Derived.Test.YtflpllmbpfdnjaaMSd
import Derived.Test.YtflpllmbpfdnjaaMSc
namespace Go.Proofs.Ytflpllmbpfdnjaa
set_option linter.unusedSimpArgs false
open Go.RowKit

theorem markRaster_any (r c : Int) (v : Value) (xs : List Int) (m : Int) (w : World) (B : Nat) (ho : Own w B v xs) (hn : xs.length ≤ 1000000000000) (hm0 : 0 ≤ m) (hm1 : m ≤ 1000000000000) :
    Calls Try.prog 20 #[.agg #[.int .i64 r, .int .i64 c, v], .int .i64 m] w fun e w' => e = .returned (.int .i64 (m + xs.length)) ∧ Own w' B v (marks m xs.length) ∧ w.grownBy w' v.ownBlock := by
  have HE := Lib.hid (fun (w' : World) (ho' : Own w' B v xs) => markInt64S_any v xs m w' B ho' hn hm0 hm1)
  have HO := Lib.hid ho
  obtain ⟨A, cp, rfl, hr⟩ := ho.shape
  clear ho hr
  go_enter Try.func20, Try.ntmps20
  go_wp2_with (go_at_call 53; refine (HE.out _ (HO.out.keep (by go_grown))).mono ?_; rintro e1 w1 ⟨rfl, ho1, hg1⟩)
  go_ret
  exact ⟨rfl, ho1, grown_trans' (grown_alloc' (World.grownBy.refl _ _) _) hg1⟩
theorem Own.riS {w : World} {B n c : Nat} {A : Option Addr} {xs : List Int} (h : Own w B (.slice A n c) xs) (hl : xs.length = n) : RI w w.heap.size A n xs := by
  obtain ⟨A', c', e, hr⟩ := h.shape
  simp only [Value.slice.injEq] at e
  obtain ⟨rfl, -, -⟩ := e
  rwa [hl] at hr
theorem blk3s {w : World} {b t : Nat} {x y z : Value} (h : w.heap[b]? = some (.cells #[x, y, z] t (0, 0))) : w.cell? ⟨b, 0, none⟩ = some x ∧ w.cell? ⟨b, 1, none⟩ = some y ∧ w.cell? ⟨b, 2, none⟩ = some z := ⟨(blk3 h).1, (blk3 h).2.1, (blk3 h).2.2.1⟩
theorem blk3e {w : World} {b t p : Nat} {x y z u v q : Value} (h : w.heap[b]? = some (.cells #[x, y, z] t (0, 0))) (hp : b ≠ p) : (((w.setCell ⟨p, 0, none⟩ u).setCell ⟨p, 1, none⟩ v).setCell ⟨p, 2, none⟩ q).cell? ⟨b, 0, none⟩ = some x ∧ (((w.setCell ⟨p, 0, none⟩ u).setCell ⟨p, 1, none⟩ v).setCell ⟨p, 2, none⟩ q).cell? ⟨b, 1, none⟩ = some y ∧ (((w.setCell ⟨p, 0, none⟩ u).setCell ⟨p, 1, none⟩ v).setCell ⟨p, 2, none⟩ q).cell? ⟨b, 2, none⟩ = some z :=
  blk3s (blk_other (blk_other (blk_other h hp) hp) hp)
theorem BxG.set3 {g p : Nat} {r c : Int} {A : Option Addr} {n cp : Nat} {m0 m1 m2 m3 m4 m5 m6 m7 m8 R C lim mar : Int} {t1 t2 t3 : Nat} {w : World} {u v q : Value} (h : BxG g r c A n cp m0 m1 m2 m3 m4 m5 m6 m7 m8 R C lim mar t1 t2 t3 w) (hp : g + 1 + 1 < p) : BxG g r c A n cp m0 m1 m2 m3 m4 m5 m6 m7 m8 R C lim mar t1 t2 t3 (((w.setCell ⟨p, 0, none⟩ u).setCell ⟨p, 1, none⟩ v).setCell ⟨p, 2, none⟩ q) :=
  ⟨blk_other (blk_other (blk_other h.1 (by omega)) (by omega)) (by omega), blk_other (blk_other (blk_other h.2.1 (by omega)) (by omega)) (by omega), blk_other (blk_other (blk_other h.2.2 (by omega)) (by omega)) (by omega)⟩
theorem BxG.allocS {g : Nat} {r c : Int} {A : Option Addr} {n cp : Nat} {m0 m1 m2 m3 m4 m5 m6 m7 m8 R C lim mar : Int} {t1 t2 t3 : Nat} {w : World} {u : Obj} (h : BxG g r c A n cp m0 m1 m2 m3 m4 m5 m6 m7 m8 R C lim mar t1 t2 t3 w) (hp : g + 1 + 1 < w.heap.size) : BxG g r c A n cp m0 m1 m2 m3 m4 m5 m6 m7 m8 R C lim mar t1 t2 t3 (w.alloc u) :=
  ⟨blk_alloc h.1 (by omega), blk_alloc h.2.1 (by omega), blk_alloc h.2.2 (by omega)⟩
theorem BxG.drewS {g : Nat} {r c : Int} {A : Option Addr} {n cp : Nat} {m0 m1 m2 m3 m4 m5 m6 m7 m8 R C lim mar : Int} {t1 t2 t3 : Nat} {w : World} (h : BxG g r c A n cp m0 m1 m2 m3 m4 m5 m6 m7 m8 R C lim mar t1 t2 t3 w) : BxG g r c A n cp m0 m1 m2 m3 m4 m5 m6 m7 m8 R C lim mar t1 t2 t3 w.drew := h
theorem blk3a {w : World} {b t : Nat} {x y z : Value} {u : Obj} (h : w.heap[b]? = some (.cells #[x, y, z] t (0, 0))) (hb : b < w.heap.size) : (w.alloc u).cell? ⟨b, 0, none⟩ = some x ∧ (w.alloc u).cell? ⟨b, 1, none⟩ = some y ∧ (w.alloc u).cell? ⟨b, 2, none⟩ = some z := blk3s (blk_alloc h hb)
theorem sameS {B : Nat} {W w' : World} (h : Below B W w') : ∀ b o, b < B → w'.cell? ⟨b, o, none⟩ = W.cell? ⟨b, o, none⟩ := fun b o hb => h.cell (p := ⟨b, o, none⟩) hb
theorem sameS_set3 {B p : Nat} {W w : World} {x y z : Value} (h : Below B W w) (hp : B ≤ p) : ∀ b o, b < B → (((w.setCell ⟨p, 0, none⟩ x).setCell ⟨p, 1, none⟩ y).setCell ⟨p, 2, none⟩ z).cell? ⟨b, o, none⟩ = W.cell? ⟨b, o, none⟩ := sameS (((h.setCell hp _).setCell hp _).setCell hp _)
theorem sameS_alloc {B : Nat} {W w : World} {u : Obj} (h : Below B W w) (hB : B ≤ w.heap.size) : ∀ b o, b < B → (w.alloc u).cell? ⟨b, o, none⟩ = W.cell? ⟨b, o, none⟩ := sameS (h.alloc hB _)
/-- The three boxes of the arguments at g; the block bs of the reference's grid, the block bx of the copy, the block bg of the program's grid; the grid's own row made behind bx and not in bg, the reference's row below mb. -/
structure SmP (w0 : World) (pr pc : Int) (A : Option Addr) (n cp : Nat) (m0 m1 m2 m3 m4 m5 m6 m7 m8 : Int) (R C lim mar : Int) (t1 t2 t3 : Nat) (bs mb bx bg : Nat) (os ox og : Obj) (v : Value) (es : List Int) (As : Option Addr) (L : Nat) (ps : List Int) (w : World) : Prop where
  sz : w0.heap.size + 1 + 1 < bs ∧ bs < mb ∧ mb ≤ bx ∧ bx < bg ∧ bg < w.heap.size
  bw : Below w0.heap.size w0 w
  kb : BxG w0.heap.size pr pc A n cp m0 m1 m2 m3 m4 m5 m6 m7 m8 R C lim mar t1 t2 t3 w
  ks : w.heap[bs]? = some os
  kx : w.heap[bx]? = some ox
  kg : w.heap[bg]? = some og
  own : Own w (bx + 1) v es
  row : ∀ k, v.ownBlock = some k → k ≠ bg
  ra : RI w mb As L ps
section
variable {w0 w w' : World} {pr pc : Int} {A : Option Addr} {n cp : Nat} {m0 m1 m2 m3 m4 m5 m6 m7 m8 R C lim mar : Int} {t1 t2 t3 : Nat} {bs mb bx bg : Nat} {os ox og : Obj} {v : Value} {es es' : List Int} {As : Option Addr} {L : Nat} {ps : List Int}
theorem BxG.block {g : Nat} (h : BxG g pr pc A n cp m0 m1 m2 m3 m4 m5 m6 m7 m8 R C lim mar t1 t2 t3 w) (h0 : w'.heap[g]? = w.heap[g]?) (h1 : w'.heap[g + 1]? = w.heap[g + 1]?) (h2 : w'.heap[g + 1 + 1]? = w.heap[g + 1 + 1]?) : BxG g pr pc A n cp m0 m1 m2 m3 m4 m5 m6 m7 m8 R C lim mar t1 t2 t3 w' :=
  ⟨h0.trans h.1, h1.trans h.2.1, h2.trans h.2.2⟩
theorem SmP.below (h : SmP w0 pr pc A n cp m0 m1 m2 m3 m4 m5 m6 m7 m8 R C lim mar t1 t2 t3 bs mb bx bg os ox og v es As L ps w) (hb : Below w.heap.size w w') : SmP w0 pr pc A n cp m0 m1 m2 m3 m4 m5 m6 m7 m8 R C lim mar t1 t2 t3 bs mb bx bg os ox og v es As L ps w' := by
  obtain ⟨⟨h1, h2, h3, h4, h5⟩, hB, kb, k0, k1, k2, ho, hr, ra⟩ := h
  have hs := hb.size
  exact ⟨⟨h1, h2, h3, h4, by omega⟩, hB.trans (hb.mono (by omega)), kb.below hb (by omega), (hb.block _ (by omega)).trans k0, (hb.block _ (by omega)).trans k1, (hb.block _ (by omega)).trans k2, ho.keep hb, hr, ra.below (hb.mono (by omega))⟩
theorem SmP.rowx {r : Option Nat} (h : SmP w0 pr pc A n cp m0 m1 m2 m3 m4 m5 m6 m7 m8 R C lim mar t1 t2 t3 bs mb bx bg os ox og v es As L ps w) (hg : w.grownBy w' r) (hr : ∀ k, r = some k → mb ≤ k ∧ k < bx) : SmP w0 pr pc A n cp m0 m1 m2 m3 m4 m5 m6 m7 m8 R C lim mar t1 t2 t3 bs mb bx bg os ox og v es As L ps w' := by
  obtain ⟨⟨h1, h2, h3, h4, h5⟩, hB, kb, k0, k1, k2, ho, hv, ra⟩ := h
  have hs := hg.size
  have hk : Own w' (bx + 1) v es := World.ownsRow.kept ho hg (by
    cases hv : v.ownBlock with
    | none => exact .inl rfl
    | some k => exact .inr fun e => by have a := (World.ownsRow.lt ho k hv).1; have b := (hr k e.symm).2; omega)
  exact ⟨⟨h1, h2, h3, h4, by omega⟩, hB.grown hg (by omega) (fun k e => by have := (hr k e).1; omega),
    kb.block (hg.block _ (by omega) (fun e => by have := (hr _ e.symm).1; omega)) (hg.block _ (by omega) (fun e => by have := (hr _ e.symm).1; omega)) (hg.block _ (by omega) (fun e => by have := (hr _ e.symm).1; omega)),
    (hg.block _ (by omega) (fun e => by have := (hr _ e.symm).1; omega)).trans k0, (hg.block _ (by omega) (fun e => by have := (hr _ e.symm).2; omega)).trans k1, (hg.block _ (by omega) (fun e => by have := (hr _ e.symm).2; omega)).trans k2,
    hk, hv, ra.grown hg (by omega) (fun k e => by have := (hr k e).1; omega)⟩
theorem SmP.mark (h : SmP w0 pr pc A n cp m0 m1 m2 m3 m4 m5 m6 m7 m8 R C lim mar t1 t2 t3 bs mb bx bg os ox og v es As L ps w) (ho : Own w' (bx + 1) v es') (hg : w.grownBy w' v.ownBlock) : SmP w0 pr pc A n cp m0 m1 m2 m3 m4 m5 m6 m7 m8 R C lim mar t1 t2 t3 bs mb bx bg os ox og v es' As L ps w' := by
  obtain ⟨⟨h1, h2, h3, h4, h5⟩, hB, kb, k0, k1, k2, ho0, hv, ra⟩ := h
  have hs := hg.size
  have hr : ∀ k, v.ownBlock = some k → bx < k ∧ k ≠ bg := fun k e => ⟨(World.ownsRow.lt ho0 k e).1, hv k e⟩
  exact ⟨⟨h1, h2, h3, h4, by omega⟩, hB.grown hg (by omega) (fun k e => by have := (hr k e).1; omega),
    kb.block (hg.block _ (by omega) (fun e => by have := (hr _ e.symm).1; omega)) (hg.block _ (by omega) (fun e => by have := (hr _ e.symm).1; omega)) (hg.block _ (by omega) (fun e => by have := (hr _ e.symm).1; omega)),
    (hg.block _ (by omega) (fun e => by have := (hr _ e.symm).1; omega)).trans k0, (hg.block _ (by omega) (fun e => by have := (hr _ e.symm).1; omega)).trans k1, (hg.block _ (by omega) (fun e => by have := (hr _ e.symm).2; omega)).trans k2,
    ho, hv, ra.grown hg (by omega) (fun k e => by have := (hr k e).1; omega)⟩
end
/-- Behind a region that has made a grid and laid it into the block g, grown from wB. -/
structure CutR (wB : World) (o : Obj) (v : Value) (xs : List Int) (g : Nat) (w : World) : Prop where
  lo : wB.heap.size ≤ g
  hi : g < w.heap.size
  blk : w.heap[g]? = some o
  bw : Below wB.heap.size wB w
  own : Own w wB.heap.size v xs
  ne : ∀ k, v.ownBlock = some k → k ≠ g
theorem CutR.last {wB w4 : World} {cs : Array Value} {t B : Nat} {v : Value} {xs : List Int} (hb : Below wB.heap.size wB w4) (ho : Own w4 B v xs) (hB : wB.heap.size ≤ B) : CutR wB (.cells cs t (0, 0)) v xs w4.heap.size (w4.alloc (.cells cs t)) :=
  ⟨hb.size, by simp, heap_alloc_new _ _, hb.alloc hb.size _, (ho.keep ((Below.refl _ _).alloc (Nat.le_refl _) _)).more hB, fun k e => by have := (World.ownsRow.lt ho k e).2; omega⟩
theorem CutR.early {wB w4 : World} {a b c x y z : Value} {t B g : Nat} {v : Value} {xs : List Int} (hb : Below wB.heap.size wB w4) (ho : Own w4 B v xs) (hB : wB.heap.size ≤ B) (hg : g < B) (h0 : wB.heap.size ≤ g) (hi : g < w4.heap.size) (hs : w4.heap[g]? = some (.cells #[a, b, c] t (0, 0))) :
    CutR wB (.cells #[x, y, z] t (0, 0)) v xs g (((w4.setCell ⟨g, 0, none⟩ x).setCell ⟨g, 1, none⟩ y).setCell ⟨g, 2, none⟩ z) :=
  ⟨h0, by simpa using hi, blk3_2 (blk3_1 (blk3_0 hs)), ((hb.setCell h0 _).setCell h0 _).setCell h0 _, (((ho.setLt hg _).setLt hg _).setLt hg _).more hB, fun k e => by have := (World.ownsRow.lt ho k e).1; omega⟩
end Go.Proofs.Ytflpllmbpfdnjaa
namespace Go.Proofs.Ytflpllmbpfdnjaa
set_option linter.unusedSimpArgs false
open Go.ChangeShapes Go.WideShapes Go.ChangeAt Go.RowKit

theorem likeGrid_same (r c : Int) (A1 A2 : Option Addr) (n c1 c2 : Nat) (xs : List Int) (w : World) (B1 B2 : Nat) (hr1 : RI w B1 A1 n xs) (hr2 : RI w B2 A2 n xs) (hB1 : B1 ≤ w.heap.size) (hB2 : B2 ≤ w.heap.size) (hn : n ≤ 1000000000000) :
    Calls Try.prog 34 #[.agg #[.int .i64 r, .int .i64 c, .slice A1 n c1], .agg #[.int .i64 r, .int .i64 c, .slice A2 n c2]] w fun e w' => e = .returned (.bool true) ∧ Below w.heap.size w w' := by
  have HE := Lib.hid (fun (w' : World) (hb : Below w.heap.size w w') => likeInts_any A1 A2 n n c1 c2 xs xs w' w.heap.size w.heap.size ((hr1.more hB1).below hb) ((hr2.more hB2).below hb) hn hn)
  have hx : (xs == xs) = true := by simp
  have hr0 : (r == r) = true := by simp
  have hc0 : (c == c) = true := by simp
  clear hr1 hr2
  rw [hx] at HE
  clear hx
  go_enter Try.func34, Try.ntmps34
  go_wp2_with (go_at_call 75; refine (HE.out _ (by go_grown)).mono ?_; rintro e1 w1 ⟨rfl, m1, rfl⟩)
  go_ret
  exact ⟨rfl, below_drewN' (by go_grown) _⟩
theorem likeRaster_same (r c : Int) (A1 A2 : Option Addr) (n c1 c2 : Nat) (xs : List Int) (w : World) (B1 B2 : Nat) (hr1 : RI w B1 A1 n xs) (hr2 : RI w B2 A2 n xs) (hB1 : B1 ≤ w.heap.size) (hB2 : B2 ≤ w.heap.size) (hn : n ≤ 1000000000000) :
    Calls Try.prog 31 #[.agg #[.int .i64 r, .int .i64 c, .slice A1 n c1], .agg #[.int .i64 r, .int .i64 c, .slice A2 n c2]] w fun e w' => e = .returned (.bool true) ∧ Below w.heap.size w w' := by
  have HE := Lib.hid (fun (w' : World) (hb : Below w.heap.size w w') => likeInts_any A1 A2 n n c1 c2 xs xs w' w.heap.size w.heap.size ((hr1.more hB1).below hb) ((hr2.more hB2).below hb) hn hn)
  have hx : (xs == xs) = true := by simp
  have hr0 : (r == r) = true := by simp
  have hc0 : (c == c) = true := by simp
  clear hr1 hr2
  rw [hx] at HE
  clear hx
  go_enter Try.func31, Try.ntmps31
  go_wp2_with (go_at_call 75; refine (HE.out _ (by go_grown)).mono ?_; rintro e1 w1 ⟨rfl, m1, rfl⟩)
  go_ret
  exact ⟨rfl, below_drewN' (by go_grown) _⟩
theorem prL_le {r c : Int} {xs : List Int} {p t q d l : Int} : (prL r c xs p t q d l).length ≤ 40000 := by
  unfold prL
  split
  · rename_i h
    obtain ⟨-, -, -, g4⟩ := prK_0 h
    obtain ⟨-, -, b3⟩ := psK_0 g4
    obtain ⟨h1, h2, h3⟩ := rszB_true b3
    rw [grdL_len]
    generalize (r + 2 * q) * t = a at *
    generalize (c + 2 * q) * p = b at *
    obtain ⟨a, rfl⟩ := Int.eq_ofNat_of_zero_le (show 0 ≤ a by omega)
    obtain ⟨b, rfl⟩ := Int.eq_ofNat_of_zero_le (show 0 ≤ b by omega)
    rw [← Int.natCast_mul] at h3
    simp only [Int.toNat_natCast]
    omega
  · simp
theorem nine_nth {xs : List Int} (h : xs.length = 9) : xs = [nth xs 0, nth xs 1, nth xs 2, nth xs 3, nth xs 4, nth xs 5, nth xs 6, nth xs 7, nth xs 8] := by
  match xs, h with
  | [a, b, c, d, e, f, g, i, j], _ => rfl
theorem mqL_len (ax ay bx bY cx cy dx dy : Int) : (mqL ax ay bx bY cx cy dx dy).length = 9 := by
  unfold mqL
  split
  · rw [redL_len]; rfl
  · rfl
/-- What a law over a grid and its print keeps: the two blocks at b1, the grid's cells below b1. -/
structure SpP (w0 : World) (b1 : Nat) (go xo : Obj) (A : Option Addr) (L : Nat) (xs : List Int) (w : World) : Prop where
  sz : w0.heap.size ≤ b1 ∧ b1 + 1 < w.heap.size
  bl : Below w0.heap.size w0 w
  kg : w.heap[b1]? = some go
  kx : w.heap[b1 + 1]? = some xo
  ra : RI w b1 A L xs
theorem SpP.below {w0 : World} {b1 : Nat} {go xo : Obj} {A : Option Addr} {L : Nat} {xs : List Int} {w w' : World} (h : SpP w0 b1 go xo A L xs w) (hb : Below w.heap.size w w') : SpP w0 b1 go xo A L xs w' := by
  obtain ⟨⟨h1, h2⟩, hB, k1, k2, ra⟩ := h
  have hs := hb.size
  exact ⟨⟨h1, by omega⟩, hB.trans (hb.mono hB.size), blk_below k1 hb (by omega), blk_below k2 hb h2, ra.below (hb.mono (by omega))⟩
theorem SpP.alloc {w0 : World} {b1 : Nat} {go xo : Obj} {A : Option Addr} {L : Nat} {xs : List Int} {w : World} (h : SpP w0 b1 go xo A L xs w) (o : Obj) : SpP w0 b1 go xo A L xs (w.alloc o) := h.below ((Below.refl _ _).alloc (Nat.le_refl _) o)
theorem SpP.drewN {w0 : World} {b1 : Nat} {go xo : Obj} {A : Option Addr} {L : Nat} {xs : List Int} {w : World} (h : SpP w0 b1 go xo A L xs w) (m : Nat) : SpP w0 b1 go xo A L xs (w.drewN m) := h.below (below_drewN' (Below.refl _ _) _)
/-- .. and the raster's block at b3 with its pixels, the map's at b6, the sampling's at b6 + 1. -/
structure SpQ (w0 : World) (b1 b3 b6 : Nat) (go xo po fo so : Obj) (A : Option Addr) (L : Nat) (xs : List Int) (PA : Option Addr) (NP : Nat) (PL : List Int) (w : World) : Prop where
  p : SpP w0 b1 go xo A L xs w
  hz : b1 + 1 < b3 ∧ b3 < b6 ∧ b6 + 1 < w.heap.size
  kp : w.heap[b3]? = some po
  km : w.heap[b6]? = some fo
  ks : w.heap[b6 + 1]? = some so
  rp : RI w b3 PA NP PL
theorem SpQ.below {w0 : World} {b1 b3 b6 : Nat} {go xo po fo so : Obj} {A : Option Addr} {L : Nat} {xs : List Int} {PA : Option Addr} {NP : Nat} {PL : List Int} {w w' : World} (h : SpQ w0 b1 b3 b6 go xo po fo so A L xs PA NP PL w) (hb : Below w.heap.size w w') : SpQ w0 b1 b3 b6 go xo po fo so A L xs PA NP PL w' := by
  obtain ⟨hp, ⟨h1, h2, h3⟩, k1, k2, k3, rp⟩ := h
  have hs := hb.size
  exact ⟨hp.below hb, ⟨h1, h2, by omega⟩, blk_below k1 hb (by omega), blk_below k2 hb (by omega), blk_below k3 hb h3, rp.below (hb.mono (by omega))⟩
theorem SpQ.alloc {w0 : World} {b1 b3 b6 : Nat} {go xo po fo so : Obj} {A : Option Addr} {L : Nat} {xs : List Int} {PA : Option Addr} {NP : Nat} {PL : List Int} {w : World} (h : SpQ w0 b1 b3 b6 go xo po fo so A L xs PA NP PL w) (o : Obj) : SpQ w0 b1 b3 b6 go xo po fo so A L xs PA NP PL (w.alloc o) := h.below ((Below.refl _ _).alloc (Nat.le_refl _) o)
set_option maxRecDepth 20000 in
set_option maxHeartbeats 8000000 in
theorem lawFnSampledPrints (A : Option Addr) (n c : Nat) (bs : List Int) (w : World) (hr : RB w w.heap.size A n bs) :
    Calls Try.prog 7 #[.slice A n c] w fun e' w' => e' = .returned (.bool true) ∧ Below w.heap.size w w' := by
  have HR := Lib.hid hr
  clear hr
  by_cases hbig : 4096 < n
  · have hbd : decide (4096 < n) = true := decide_eq_true hbig
    go_enter Try.func7, Try.ntmps7
    go_wp2_with (go_at_call 27; go_call (big_any _ _ _ _) as e0 w0 ⟨rfl, hb0⟩; obtain ⟨hc0, hf0⟩ := bcell hb0; have hB0 : Below w.heap.size w w0 := (below_then (by first | (go_grown; done) | (repeat (first | (with_reducible assumption) | (with_reducible exact Below.refl _ _) | (with_reducible refine below_drewN' ?_ _) | (with_reducible refine Below.drew ?_) | ((with_reducible refine Below.alloc ?_ ?_ _); rotate_left; focus (first | (simp; done) | (simp; omega) | omega)) | ((with_reducible refine Below.setCell ?_ ?_ _); rotate_left; focus (first | (simp; done) | (simp; omega) | omega))))) (by first | omega | (simp; done) | (simp; omega)) hb0))
    go_ret
    exact ⟨rfl, by (repeat (first | (with_reducible assumption) | (with_reducible exact Below.refl _ _) | (with_reducible refine below_drewN' ?_ _) | (with_reducible refine Below.drew ?_) | ((with_reducible refine Below.alloc ?_ ?_ _); rotate_left; focus (first | (simp; done) | (simp; omega) | omega)) | ((with_reducible refine Below.setCell ?_ ?_ _); rotate_left; focus (first | (simp; done) | (simp; omega) | omega))))⟩
  have hbd : decide (4096 < n) = false := decide_eq_false hbig
  have HD := Lib.hid (fun (w' : World) (hb : Below w.heap.size w w') => DrawPrintGrid_any A n c bs w.heap.size w' (HR.out.below hb) hb.size (by omega))
  go_enter Try.func7, Try.ntmps7
  go_wp2_with first | (go_at_call 27; go_call (big_any _ _ _ _) as e0 w0 ⟨rfl, hb0⟩; obtain ⟨hc0, hf0⟩ := bcell hb0; have hB0 : Below w.heap.size w w0 := (below_then (by first | (go_grown; done) | (repeat (first | (with_reducible assumption) | (with_reducible exact Below.refl _ _) | (with_reducible refine below_drewN' ?_ _) | (with_reducible refine Below.drew ?_) | ((with_reducible refine Below.alloc ?_ ?_ _); rotate_left; focus (first | (simp; done) | (simp; omega) | omega)) | ((with_reducible refine Below.setCell ?_ ?_ _); rotate_left; focus (first | (simp; done) | (simp; omega) | omega))))) (by first | omega | (simp; done) | (simp; omega)) hb0))
  go_at_call 28
  with_reducible refine (HD.out _ hB0).mono ?_
  rintro e1 w1 ⟨u1, rfl, ⟨r, cc, gv, xs, p, t, q, bl, d, l, rfl, ⟨gl1, gl2, go1, gb1, gb2, gb3, gb4⟩, ⟨pb1, pb2⟩, ⟨tb1, tb2⟩, ⟨qb1, qb2⟩, ⟨bb1, bb2⟩, ⟨db1, db2⟩, lb1, lb2⟩, hb1⟩
  have HB1 := Lib.hid (hB0.trans (hb1.mono hB0.size))
  obtain ⟨GA, gcp, rfl, -⟩ := go1.shape
  obtain ⟨L, hL⟩ : ∃ L, xs.length = L := ⟨_, rfl⟩
  rw [hL] at go1 gl1 gl2 ⊢
  have HRG := Lib.hid (go1.riS hL)
  have HL := Lib.hid hL
  have hs1 := HB1.out.size
  clear hb0 hb1 hB0 hc0 hf0 go1 hL bb1 bb2
  go_upto_region 5 with fail
  obtain ⟨b1, hb1⟩ : ∃ b1, w1.heap.size = b1 := ⟨_, rfl⟩
  refine gen_world (P := fun W' => Code.wp _ _ _ _ W') (Q := fun W' => SpP w b1 (.cells #[.int .i64 r, .int .i64 cc, .slice GA L gcp] 41 (0, 0)) (.cells #[.int .i64 p, .int .i64 t, .int .i64 q, .int .i64 0, .int .i64 d, .int .i64 l] 53 (0, 0)) GA L xs W') ?_ ?_
  · subst hb1
    exact ⟨⟨hs1, by simp⟩, (HB1.out.alloc hs1 _).alloc (by simp; omega) _, blk_alloc (heap_alloc_new _ _) (by simp), heap_alloc_at (by simp), HRG.out.below (((Below.refl _ _).alloc (Nat.le_refl _) _).alloc (by simp) _)⟩
  intro w2 hp2
  have HP2 := Lib.hid hp2
  rw [hb1]
  clear hp2 HRG HB1 hs1 hb1

  have HC1 := fun (w' : World) (h : SpP w b1 (.cells #[.int .i64 r, .int .i64 cc, .slice GA L gcp] 41 (0, 0)) (.cells #[.int .i64 p, .int .i64 t, .int .i64 q, .int .i64 0, .int .i64 d, .int .i64 l] 53 (0, 0)) GA L xs w') => PrintGrid_any r cc GA L gcp xs p t q d l w' b1 h.ra (by have := h.sz; omega) (by omega)
  have HC2 := fun (w' : World) (h : SpP w b1 (.cells #[.int .i64 r, .int .i64 cc, .slice GA L gcp] 41 (0, 0)) (.cells #[.int .i64 p, .int .i64 t, .int .i64 q, .int .i64 0, .int .i64 d, .int .i64 l] 53 (0, 0)) GA L xs w') => sPrintGrid_any r cc GA L gcp xs p t q d l w' b1 h.ra (by have := h.sz; omega) (by omega)
  have hle := prL_le (r := r) (c := cc) (xs := xs) (p := p) (t := t) (q := q) (d := d) (l := l)
  obtain ⟨K, hK⟩ : ∃ K, prK r cc xs p t q d l = K := ⟨_, rfl⟩
  obtain ⟨PL, hPL⟩ : ∃ PL, prL r cc xs p t q d l = PL := ⟨_, rfl⟩
  obtain ⟨PH, hPH⟩ : ∃ PH, gK (prK r cc xs p t q d l) ((r + 2 * q) * t) = PH := ⟨_, rfl⟩
  obtain ⟨PV, hPV⟩ : ∃ PV, gK (prK r cc xs p t q d l) ((cc + 2 * q) * p) = PV := ⟨_, rfl⟩
  rw [hPL] at hle
  rw [hPH, hPV, hPL, hK] at HC1 HC2
  have HPG1 := Lib.hid HC1
  have HPG2 := Lib.hid HC2
  have HK := Lib.hid hK
  have HPL := Lib.hid hPL
  have HPH := Lib.hid hPH
  have HPV := Lib.hid hPV
  obtain ⟨NP, hNP⟩ : ∃ NP, PL.length = NP := ⟨_, rfl⟩
  rw [hNP] at hle
  have HNP := Lib.hid hNP
  clear HC1 HC2 hK hPL hPH hPV hNP
  obtain ⟨g0, g1, g2, -⟩ := blk3 HP2.out.kg
  obtain ⟨x0, x1, x2, x3, x4, x5, -⟩ := blk6q HP2.out.kx
  go_wp2_with fail
  go_at_call 29
  with_reducible refine (HPG1.out _ HP2.out).mono ?_
  rintro e3 w3 ⟨v3, rfl, ho3, hb3⟩
  obtain ⟨PA, pcp, rfl, -⟩ := ho3.shape
  rw [HNP.out] at ho3 ⊢
  have HP3 := Lib.hid (HP2.out.below hb3)
  have HRP3 := Lib.hid (ho3.riS HNP.out)
  clear hb3 ho3 g0 g1 g2 x0 x1 x2 x3 x4 x5
  obtain ⟨g0, g1, g2, -⟩ := blk3 HP3.out.kg
  obtain ⟨x0, x1, x2, x3, x4, x5, -⟩ := blk6q HP3.out.kx
  have hz3 := HP3.out.sz
  have hz3a : b1 < w3.heap.size := by omega
  have hz3b : b1 + 1 < w3.heap.size := hz3.2
  go_wp2_with fail
  go_at_call 30
  with_reducible refine (HPG2.out _ (HP3.out.alloc _)).mono ?_
  rintro e4 w4 ⟨v4, rfl, ho4, hb4⟩
  obtain ⟨MA, mcp, rfl, -⟩ := ho4.shape
  rw [HNP.out] at ho4 ⊢
  have HP4 := Lib.hid ((HP3.out.alloc (.cells #[.int .i64 PH, .int .i64 PV, .slice PA NP pcp] 32)).below hb4)
  have HRM4 := Lib.hid (ho4.riS HNP.out)
  have HRP4 := Lib.hid ((HRP3.out.below ((Below.refl w3.heap.size w3).alloc (Nat.le_refl _) (.cells #[.int .i64 PH, .int .i64 PV, .slice PA NP pcp] 32))).below (hb4.mono (by simp)))
  have HQ4 := Lib.hid (blk_below (heap_alloc_new w3 (.cells #[.int .i64 PH, .int .i64 PV, .slice PA NP pcp] 32)) hb4 (by simp))
  obtain ⟨b3, hb3e⟩ : ∃ b3, w3.heap.size = b3 := ⟨_, rfl⟩
  rw [hb3e] at HRP4 HQ4 hz3a hz3b ⊢
  have hz4 : b3 < w4.heap.size := lt_of_block HQ4.out
  clear hb4 ho4 g0 g1 g2 x0 x1 x2 x3 x4 x5 hb3e HP3 HRP3 hz3
  obtain ⟨p0, p1, p2, -⟩ := blk3 HQ4.out
  have hkk : (K != K) = false := by simp
  have HLR := Lib.hid (fun (w' : World) (hb : Below w4.heap.size w4 w') => likeRaster_same PH PV PA MA NP pcp mcp PL w' b3 w4.heap.size (HRP4.out.below (hb.mono (Nat.le_of_lt hz4))) (HRM4.out.below hb) (by have := hb.size; omega) hb.size (by omega))
  go_wp2_with (go_at_call 31; with_reducible refine (HLR.out _ ((Below.refl _ _).alloc (Nat.le_refl _) _)).mono ?_; rintro e5 w5 ⟨rfl, hb5⟩; have hd5 : Below w4.heap.size w4 w5 := Below.trans ((Below.refl _ _).alloc (Nat.le_refl _) (.cells #[.int .i64 PH, .int .i64 PV, .slice MA NP mcp] 32)) (hb5.mono (by simp)); have HP5 := Lib.hid (HP4.out.below hd5); have HQ5 := Lib.hid (blk_below HQ4.out hd5 hz4); have HRP5 := Lib.hid (HRP4.out.below (hd5.mono (Nat.le_of_lt hz4))); have hz5 : b3 < w5.heap.size := lt_of_block HQ5.out; clear hb5 hd5; obtain ⟨g0, g1, g2, -⟩ := blk3 HP5.out.kg; obtain ⟨x0, x1, x2, x3, x4, x5, -⟩ := blk6q HP5.out.kx)
  clear p0 p1 p2 HLR HRM4 HRP4 HQ4 HP4
  obtain ⟨Q2, hQ2⟩ : ∃ x, 2 * q = x := ⟨_, rfl⟩
  obtain ⟨LL, hLL⟩ : ∃ x, Q2 * p = x := ⟨_, rfl⟩
  obtain ⟨TT, hTT⟩ : ∃ x, Q2 * t = x := ⟨_, rfl⟩
  obtain ⟨C2, hC2⟩ : ∃ x, 2 * cc = x := ⟨_, rfl⟩
  obtain ⟨WW, hWW⟩ : ∃ x, C2 * p = x := ⟨_, rfl⟩
  obtain ⟨R2, hR2⟩ : ∃ x, 2 * r = x := ⟨_, rfl⟩
  obtain ⟨HH, hHH⟩ : ∃ x, R2 * t = x := ⟨_, rfl⟩
  have l1 := mul_rg (a := Q2) (b := p) 100 100 (by omega) (by omega) (by omega) (by omega)
  have l2 := mul_rg (a := Q2) (b := t) 100 100 (by omega) (by omega) (by omega) (by omega)
  have l3 := mul_rg (a := C2) (b := p) 100000 100 (by omega) (by omega) (by omega) (by omega)
  have l4 := mul_rg (a := R2) (b := t) 100000 100 (by omega) (by omega) (by omega) (by omega)
  rw [hLL] at l1
  rw [hTT] at l2
  rw [hWW] at l3
  rw [hHH] at l4
  have f1 : IntKind.i64.wrap (2 * q) = Q2 := by rw [IntKind.wrap_i64]; omega
  have f2 : IntKind.i64.wrap (Q2 * p) = LL := by rw [hLL, IntKind.wrap_i64]; omega
  have f3 : IntKind.i64.wrap (Q2 * t) = TT := by rw [hTT, IntKind.wrap_i64]; omega
  have f4 : IntKind.i64.wrap (2 * cc) = C2 := by rw [IntKind.wrap_i64]; omega
  have f5 : IntKind.i64.wrap (C2 * p) = WW := by rw [hWW, IntKind.wrap_i64]; omega
  have f6 : IntKind.i64.wrap (2 * r) = R2 := by rw [IntKind.wrap_i64]; omega
  have f7 : IntKind.i64.wrap (R2 * t) = HH := by rw [hHH, IntKind.wrap_i64]; omega
  have f8 : IntKind.i64.wrap (LL + WW) = LL + WW := by rw [IntKind.wrap_i64]; omega
  have f9 : IntKind.i64.wrap (TT + HH) = TT + HH := by rw [IntKind.wrap_i64]; omega
  have HE := Lib.hid (show 2 * q * p = LL ∧ 2 * q * t = TT ∧ 2 * cc * p = WW ∧ 2 * r * t = HH from ⟨by rw [hQ2, hLL], by rw [hQ2, hTT], by rw [hC2, hWW], by rw [hR2, hHH]⟩)
  clear hQ2 hLL hTT hC2 hWW hR2 hHH
  have HMQ := fun w => MapOfQuad_any LL TT (LL + WW) TT (LL + WW) (TT + HH) LL (TT + HH) w
  have hnine := nine_nth (mqL_len LL TT (LL + WW) TT (LL + WW) (TT + HH) LL (TT + HH))
  obtain ⟨m0, hm0⟩ : ∃ x, nth (mqL LL TT (LL + WW) TT (LL + WW) (TT + HH) LL (TT + HH)) 0 = x := ⟨_, rfl⟩
  rw [hm0] at HMQ hnine
  obtain ⟨m1, hm1⟩ : ∃ x, nth (mqL LL TT (LL + WW) TT (LL + WW) (TT + HH) LL (TT + HH)) 1 = x := ⟨_, rfl⟩
  rw [hm1] at HMQ hnine
  obtain ⟨m2, hm2⟩ : ∃ x, nth (mqL LL TT (LL + WW) TT (LL + WW) (TT + HH) LL (TT + HH)) 2 = x := ⟨_, rfl⟩
  rw [hm2] at HMQ hnine
  obtain ⟨m3, hm3⟩ : ∃ x, nth (mqL LL TT (LL + WW) TT (LL + WW) (TT + HH) LL (TT + HH)) 3 = x := ⟨_, rfl⟩
  rw [hm3] at HMQ hnine
  obtain ⟨m4, hm4⟩ : ∃ x, nth (mqL LL TT (LL + WW) TT (LL + WW) (TT + HH) LL (TT + HH)) 4 = x := ⟨_, rfl⟩
  rw [hm4] at HMQ hnine
  obtain ⟨m5, hm5⟩ : ∃ x, nth (mqL LL TT (LL + WW) TT (LL + WW) (TT + HH) LL (TT + HH)) 5 = x := ⟨_, rfl⟩
  rw [hm5] at HMQ hnine
  obtain ⟨m6, hm6⟩ : ∃ x, nth (mqL LL TT (LL + WW) TT (LL + WW) (TT + HH) LL (TT + HH)) 6 = x := ⟨_, rfl⟩
  rw [hm6] at HMQ hnine
  obtain ⟨m7, hm7⟩ : ∃ x, nth (mqL LL TT (LL + WW) TT (LL + WW) (TT + HH) LL (TT + HH)) 7 = x := ⟨_, rfl⟩
  rw [hm7] at HMQ hnine
  obtain ⟨m8, hm8⟩ : ∃ x, nth (mqL LL TT (LL + WW) TT (LL + WW) (TT + HH) LL (TT + HH)) 8 = x := ⟨_, rfl⟩
  rw [hm8] at HMQ hnine
  obtain ⟨MC, hMC⟩ : ∃ MC, mqC LL TT (LL + WW) TT (LL + WW) (TT + HH) LL (TT + HH) = MC := ⟨_, rfl⟩
  rw [hMC] at HMQ
  have HMQ' := Lib.hid HMQ
  have HNI := Lib.hid hnine
  have HMC := Lib.hid hMC
  clear HMQ hnine hMC
  go_quiet (fail)
  go_wp2_with fail
  go_quiet (fail)
  clear f1 f2 f3 f4 f5 f6 f7 f8 f9
  go_wp2_with fail

  go_at_call 32
  with_reducible refine (HMQ'.out _).mono ?_
  rintro e6 w6 ⟨rfl, hb6⟩
  have hd6 : Below w5.heap.size w5 w6 := Below.trans (by repeat (first | exact Below.refl _ _ | with_reducible refine below_drewN' ?_ _)) (hb6.mono (by simp))
  have HP6 := Lib.hid (HP5.out.below hd6)
  have HQ6 := Lib.hid (blk_below HQ5.out hd6 hz5)
  have HRP6 := Lib.hid (HRP5.out.below (hd6.mono (Nat.le_of_lt hz5)))
  have hz6 : b3 < w6.heap.size := lt_of_block HQ6.out
  clear hb6 hd6 g0 g1 g2 x0 x1 x2 x3 x4 x5 HP5 HQ5 HRP5
  obtain ⟨g0, g1, g2, -⟩ := blk3 HP6.out.kg
  obtain ⟨x0, x1, x2, x3, x4, x5, -⟩ := blk6q HP6.out.kx
  have hz6a : b1 < w6.heap.size := by omega
  have hz6b : b1 + 1 < w6.heap.size := by omega
  obtain ⟨LM, hLM⟩ : ∃ x, (d + l + 1) / 2 = x := ⟨_, rfl⟩
  have hLM2 : (d + l + 1).tdiv 2 = LM := by rw [Int.tdiv_eq_ediv_of_nonneg (by omega)]; exact hLM
  have hLMb : 0 ≤ LM ∧ LM ≤ 200 := by omega
  have HLM := Lib.hid hLM
  have HIS := Lib.hid (fun w => sIsSampling_any r cc LM 0 w)
  go_upto_region 13 with fail
  obtain ⟨b6, hb6⟩ : ∃ b6, w6.heap.size = b6 := ⟨_, rfl⟩
  have HS7 : Hid (SpQ w b1 b3 b6 (.cells #[.int .i64 r, .int .i64 cc, .slice GA L gcp] 41 (0, 0)) (.cells #[.int .i64 p, .int .i64 t, .int .i64 q, .int .i64 0, .int .i64 d, .int .i64 l] 53 (0, 0)) (.cells #[.int .i64 PH, .int .i64 PV, .slice PA NP pcp] 32 (0, 0)) (.cells #[.int .i64 m0, .int .i64 m1, .int .i64 m2, .int .i64 m3, .int .i64 m4, .int .i64 m5, .int .i64 m6, .int .i64 m7, .int .i64 m8] 34 (0, 0)) (.cells #[.int .i64 r, .int .i64 cc, .int .i64 LM, .int .i64 0] 36 (0, 0)) GA L xs PA NP PL ((w6.alloc (.cells #[.int .i64 m0, .int .i64 m1, .int .i64 m2, .int .i64 m3, .int .i64 m4, .int .i64 m5, .int .i64 m6, .int .i64 m7, .int .i64 m8] 34)).alloc (.cells #[.int .i64 r, .int .i64 cc, .int .i64 LM, .int .i64 0] 36))) := Lib.hid ⟨(HP6.out.alloc _).alloc _, ⟨by omega, by omega, by simp; omega⟩, blk_alloc (blk_alloc HQ6.out hz6) (by simp; omega), by subst hb6; exact blk_alloc (heap_alloc_new _ _) (by simp), by subst hb6; exact heap_alloc_at (by simp), HRP6.out.below (((Below.refl b3 w6).alloc (Nat.le_of_lt hz6) _).alloc (by simp; omega) _)⟩
  rw [hb6]
  generalize (w6.alloc (.cells #[.int .i64 m0, .int .i64 m1, .int .i64 m2, .int .i64 m3, .int .i64 m4, .int .i64 m5, .int .i64 m6, .int .i64 m7, .int .i64 m8] 34)).alloc (.cells #[.int .i64 r, .int .i64 cc, .int .i64 LM, .int .i64 0] 36) = w7 at *
  clear g0 g1 g2 x0 x1 x2 x3 x4 x5 hb6 HP6 HQ6 HRP6 hLM hLM2
  obtain ⟨s0, s1, s2, s3, -⟩ := blk4 HS7.out.ks
  have hz7 := HS7.out.hz
  by_cases hK : K = 0
  rotate_left
  · have hK' : (K != 0) = true := by simpa using hK
    clear hK
    go_wp2_with fail
    go_ret
    exact ⟨rfl, HS7.out.p.bl⟩
  by_cases hC : MC = 0
  rotate_left
  · have hC' : (MC != 0) = true := by simpa using hC
    have hK' : (K != 0) = false := by simpa using hK
    clear hK hC
    go_wp2_with fail
    go_ret
    exact ⟨rfl, HS7.out.p.bl⟩
  have hK' : (K != 0) = false := by simpa using hK
  have hC' : (MC != 0) = false := by simpa using hC
  cases hIS : isSamplingB r cc LM 0
  · rw [hIS] at HIS
    clear hK hC hIS
    go_wp2_with (go_at_call 33; with_reducible refine (HIS.out _).mono ?_; rintro e8 w8 ⟨rfl, hb8⟩)
    go_ret
    exact ⟨rfl, (HS7.out.below hb8).p.bl⟩
  rw [hIS] at HIS
  have HGD := spv_good (r := r) (c := cc) (p := p) (t := t) (q := q) (d := d) (l := l) (LM := LM) (PH := PH) (PV := PV) (m0 := m0) (m1 := m1) (m2 := m2) (m3 := m3) (m4 := m4) (m5 := m5) (m6 := m6) (m7 := m7) (m8 := m8) (xs := xs) (PL := PL) (HK.out.trans hK) HPH.out HPV.out HPL.out
    (by rw [HE.out.1, HE.out.2.1, HE.out.2.2.1, HE.out.2.2.2]; exact HMC.out.trans hC) (by rw [HE.out.1, HE.out.2.1, HE.out.2.2.1, HE.out.2.2.2]; exact HNI.out) HLM.out hIS
  obtain ⟨a1, a2, a3⟩ := HGD
  have HSM : Hid (∀ (w' : World) (B : Nat), RI w' B PA NP PL → B ≤ w'.heap.size → Calls Try.prog 18 #[.agg #[.int .i64 PH, .int .i64 PV, .slice PA NP pcp], .agg #[.int .i64 m0, .int .i64 m1, .int .i64 m2, .int .i64 m3, .int .i64 m4, .int .i64 m5, .int .i64 m6, .int .i64 m7, .int .i64 m8], .agg #[.int .i64 r, .int .i64 cc, .int .i64 LM, .int .i64 0]] w' fun e w'' => ∃ v, e = .returned (.tuple #[.agg #[.int .i64 r, .int .i64 cc, v], .int .i64 0]) ∧ Own w'' w'.heap.size v xs ∧ Below w'.heap.size w' w'') := Lib.hid (fun w' B hr hB => by
    have h := SampleMap_any PH PV PA NP pcp PL m0 m1 m2 m3 m4 m5 m6 m7 m8 r cc LM 0 w' B hr hB (by omega)
    rw [a1.1, a1.2] at h
    exact h)
  have HSF : Hid (∀ (w' : World) (B : Nat), RI w' B PA NP PL → B ≤ w'.heap.size → Calls Try.prog 26 #[.agg #[.int .i64 PH, .int .i64 PV, .slice PA NP pcp], .agg #[.int .i64 m0, .int .i64 m1, .int .i64 m2, .int .i64 m3, .int .i64 m4, .int .i64 m5, .int .i64 m6, .int .i64 m7, .int .i64 m8], .agg #[.int .i64 r, .int .i64 cc, .int .i64 LM, .int .i64 0]] w' fun e w'' => ∃ v, e = .returned (.tuple #[.agg #[.int .i64 r, .int .i64 cc, v], .int .i64 0]) ∧ Own w'' w'.heap.size v xs ∧ Below w'.heap.size w' w'') := Lib.hid (fun w' B hr hB => by
    have h := SampleFive_any PH PV PA NP pcp PL m0 m1 m2 m3 m4 m5 m6 m7 m8 r cc LM 0 w' B hr hB (by omega)
    rw [a2.1, a2.2] at h
    exact h)
  have HST : Hid (∀ (w' : World) (B : Nat), RI w' B PA NP PL → B ≤ w'.heap.size → Calls Try.prog 24 #[.agg #[.int .i64 PH, .int .i64 PV, .slice PA NP pcp], .agg #[.int .i64 m0, .int .i64 m1, .int .i64 m2, .int .i64 m3, .int .i64 m4, .int .i64 m5, .int .i64 m6, .int .i64 m7, .int .i64 m8], .agg #[.int .i64 r, .int .i64 cc, .int .i64 LM, .int .i64 0], .int .i64 3] w' fun e w'' => ∃ v, e = .returned (.tuple #[.agg #[.int .i64 r, .int .i64 cc, v], .int .i64 0]) ∧ Own w'' w'.heap.size v xs ∧ Below w'.heap.size w' w'') := Lib.hid (fun w' B hr hB => by
    have h := SampleStack_any PH PV PA NP pcp PL m0 m1 m2 m3 m4 m5 m6 m7 m8 r cc LM 0 3 w' B hr hB (by omega)
    rw [a3.1, a3.2] at h
    exact h)
  have hn40 : NP ≤ 40000 := hle
  subst hK hC
  clear a1 a2 a3 hIS hz7
  go_wp2_with (go_at_call 33; with_reducible refine (HIS.out _).mono ?_; rintro e8 w8 ⟨rfl, hb8⟩; have HS8 := Lib.hid (HS7.out.below hb8); clear hb8; obtain ⟨p0, p1, p2, -⟩ := blk3 HS8.out.kp; obtain ⟨n0, n1, n2, n3, n4, n5, n6, n7, n8, -⟩ := blk9 HS8.out.km; obtain ⟨s0, s1, s2, s3, -⟩ := blk4 HS8.out.ks)

  go_at_call 18
  with_reducible refine (HSM.out _ b3 HS8.out.rp ?_).mono ?_
  (focus (have := HS8.out.hz; first | omega | (simp; omega)))
  rintro e9 w9 ⟨v9, rfl, ho9, hb9⟩
  obtain ⟨A9, c9, rfl, -⟩ := ho9.shape
  rw [HL.out] at ho9 ⊢
  have HS9 := Lib.hid (HS8.out.below hb9)
  have HR9 := Lib.hid (ho9.riS HL.out)
  have hz9 := HS9.out.hz
  clear hb9 ho9 p0 p1 p2 n0 n1 n2 n3 n4 n5 n6 n7 n8 s0 s1 s2 s3
  obtain ⟨p0, p1, p2, -⟩ := blk3 HS9.out.kp
  obtain ⟨n0, n1, n2, n3, n4, n5, n6, n7, n8, -⟩ := blk9 HS9.out.km
  obtain ⟨s0, s1, s2, s3, -⟩ := blk4 HS9.out.ks
  have y1 : b3 < w9.heap.size := by omega
  have y2 : b6 < w9.heap.size := by omega
  have y3 : b6 + 1 < w9.heap.size := by omega
  go_wp2_with fail
  go_at_call 26
  with_reducible refine (HSF.out _ b3 (HS9.out.alloc _).rp ?_).mono ?_
  (focus (have := HS9.out.hz; first | omega | (simp; omega)))
  rintro e10 w10 ⟨v10, rfl, ho10, hb10⟩
  obtain ⟨A10, c10, rfl, -⟩ := ho10.shape
  rw [HL.out] at ho10 ⊢
  have HS10 := Lib.hid ((HS9.out.alloc _).below hb10)
  have HR10 := Lib.hid (ho10.riS HL.out)
  have hz10 := HS10.out.hz
  have HG9 := Lib.hid (blk_below (heap_alloc_new w9 (.cells #[.int .i64 r, .int .i64 cc, .slice A9 L c9] 41)) hb10 (by simp))
  have HR9b := Lib.hid ((HR9.out.below ((Below.refl w9.heap.size w9).alloc (Nat.le_refl _) (.cells #[.int .i64 r, .int .i64 cc, .slice A9 L c9] 41))).below (hb10.mono (by simp)))
  obtain ⟨b9, hb9e⟩ : ∃ b9, w9.heap.size = b9 := ⟨_, rfl⟩
  rw [hb9e] at HG9 HR9b ⊢
  have y9 : b9 < w10.heap.size := lt_of_block HG9.out
  clear hb10 ho10 p0 p1 p2 n0 n1 n2 n3 n4 n5 n6 n7 n8 s0 s1 s2 s3 y1 y2 y3 hb9e HR9
  obtain ⟨p0, p1, p2, -⟩ := blk3 HS10.out.kp
  obtain ⟨n0, n1, n2, n3, n4, n5, n6, n7, n8, -⟩ := blk9 HS10.out.km
  obtain ⟨s0, s1, s2, s3, -⟩ := blk4 HS10.out.ks
  have y1 : b3 < w10.heap.size := by omega
  have y2 : b6 < w10.heap.size := by omega
  have y3 : b6 + 1 < w10.heap.size := by omega
  go_wp2_with fail
  go_at_call 24
  with_reducible refine (HST.out _ b3 (HS10.out.alloc _).rp ?_).mono ?_
  (focus (have := HS10.out.hz; first | omega | (simp; omega)))
  rintro e11 w11 ⟨v11, rfl, ho11, hb11⟩
  obtain ⟨A11, c11, rfl, -⟩ := ho11.shape
  rw [HL.out] at ho11 ⊢
  have HS11 := Lib.hid ((HS10.out.alloc _).below hb11)
  have HR11 := Lib.hid (ho11.riS HL.out)
  have hz11 := HS11.out.hz
  have HG10 := Lib.hid (blk_below (heap_alloc_new w10 (.cells #[.int .i64 r, .int .i64 cc, .slice A10 L c10] 41)) hb11 (by simp))
  have HR10b := Lib.hid ((HR10.out.below ((Below.refl w10.heap.size w10).alloc (Nat.le_refl _) (.cells #[.int .i64 r, .int .i64 cc, .slice A10 L c10] 41))).below (hb11.mono (by simp)))
  have HG9b := Lib.hid (blk_below (blk_alloc (u := .cells #[.int .i64 r, .int .i64 cc, .slice A10 L c10] 41) HG9.out y9) hb11 (by simp; omega))
  have HR9c := Lib.hid ((HR9b.out.below ((Below.refl b9 w10).alloc (Nat.le_of_lt y9) (.cells #[.int .i64 r, .int .i64 cc, .slice A10 L c10] 41))).below (hb11.mono (by simp; omega)))
  obtain ⟨b10, hb10e⟩ : ∃ b10, w10.heap.size = b10 := ⟨_, rfl⟩
  rw [hb10e] at HG10 HR10b ⊢
  have y10 : b10 < w11.heap.size := lt_of_block HG10.out
  have y9b : b9 < w11.heap.size := lt_of_block HG9b.out
  clear hb11 ho11 p0 p1 p2 n0 n1 n2 n3 n4 n5 n6 n7 n8 s0 s1 s2 s3 y1 y2 y3 y9 hb10e HR10 HG9 HR9b
  obtain ⟨g0, g1, g2, -⟩ := blk3 HS11.out.p.kg
  obtain ⟨h0, h1, h2, -⟩ := blk3 HG9b.out
  obtain ⟨i0, i1, i2, -⟩ := blk3 HG10.out
  have y1 : b1 < w11.heap.size := by have := HS11.out.p.sz; omega
  have hz12 : w11.heap.size < (w11.alloc (.cells #[.int .i64 r, .int .i64 cc, .slice A11 L c11] 41)).heap.size := by simp
  have HD12 := Lib.hid ((Below.refl w11.heap.size w11).alloc (Nat.le_refl _) (.cells #[.int .i64 r, .int .i64 cc, .slice A11 L c11] 41))
  have HLA := Lib.hid (fun (w' : World) (hb : Below w11.heap.size w11 w') => likeGrid_same r cc A9 GA L c9 gcp xs w' b9 b1 (HR9c.out.below (hb.mono (Nat.le_of_lt y9b))) (HS11.out.p.ra.below (hb.mono (Nat.le_of_lt y1))) (by have := hb.size; omega) (by have := hb.size; omega) (by omega))
  have HLB := Lib.hid (fun (w' : World) (hb : Below w11.heap.size w11 w') => likeGrid_same r cc A10 GA L c10 gcp xs w' b10 b1 (HR10b.out.below (hb.mono (Nat.le_of_lt y10))) (HS11.out.p.ra.below (hb.mono (Nat.le_of_lt y1))) (by have := hb.size; omega) (by have := hb.size; omega) (by omega))
  have HLC := Lib.hid (fun (w' : World) (hb : Below w11.heap.size w11 w') => likeGrid_same r cc A11 GA L c11 gcp xs w' w11.heap.size b1 (HR11.out.below hb) (HS11.out.p.ra.below (hb.mono (Nat.le_of_lt y1))) hb.size (by have := hb.size; omega) (by omega))
  go_wp2_with fail
  go_at_call 34
  with_reducible refine (HLA.out _ HD12.out).mono ?_
  rintro e12 w12 ⟨rfl, hb12⟩
  have hd12 : Below w11.heap.size w11 w12 := HD12.out.trans (hb12.mono (by simp))
  have HS12 := Lib.hid (HS11.out.below hd12)
  have HG12 := Lib.hid (blk_below HG10.out hd12 y10)
  have HC12 := Lib.hid (blk_below (heap_alloc_new w11 (.cells #[.int .i64 r, .int .i64 cc, .slice A11 L c11] 41)) hb12 (by simp))
  have HD12b := Lib.hid hd12
  have z1 : b1 < w12.heap.size := by have := HS12.out.p.sz; omega
  have z2 : b10 < w12.heap.size := lt_of_block HG12.out
  have z3 : w11.heap.size < w12.heap.size := lt_of_block HC12.out
  clear hb12 hd12 g0 g1 g2 h0 h1 h2 i0 i1 i2
  obtain ⟨g0, g1, g2, -⟩ := blk3 HS12.out.p.kg
  obtain ⟨i0, i1, i2, -⟩ := blk3 HG12.out
  obtain ⟨j0, j1, j2, -⟩ := blk3 HC12.out
  go_wp2_with fail
  go_at_call 34
  with_reducible refine (HLB.out _ HD12b.out).mono ?_
  rintro e13 w13 ⟨rfl, hb13⟩
  have hd13 : Below w11.heap.size w11 w13 := HD12b.out.trans (hb13.mono (Nat.le_of_lt z3))
  have HS13 := Lib.hid (HS12.out.below hb13)
  have HC13 := Lib.hid (blk_below HC12.out hb13 z3)
  have HD13 := Lib.hid hd13
  have z4 : b1 < w13.heap.size := by have := HS13.out.p.sz; omega
  have z5 : w11.heap.size < w13.heap.size := lt_of_block HC13.out
  clear hb13 hd13 g0 g1 g2 i0 i1 i2 j0 j1 j2
  obtain ⟨g0, g1, g2, -⟩ := blk3 HS13.out.p.kg
  obtain ⟨j0, j1, j2, -⟩ := blk3 HC13.out
  go_wp2_with fail
  go_at_call 34
  with_reducible refine (HLC.out _ HD13.out).mono ?_
  rintro e14 w14 ⟨rfl, hb14⟩
  have HS14 := Lib.hid (HS13.out.below hb14)
  clear hb14
  go_wp2_with fail
  go_ret
  exact ⟨rfl, HS14.out.p.bl⟩

set_option maxRecDepth 100000 in
theorem lifted_FnSampledPrints (os : Os) (started : os.Started) (H : Type) (enc : TypeId × Value → H) :
    ReturnsInHanded {} Try.checked os 7 .any (Rows.fnSampledPrintsSpec.pre6 enc Try.prog Try.f7 Rows.fnSampledPrintsRow.domain false) (Rows.fnSampledPrintsSpec.post enc Try.prog Try.f7 false true false false) := by
  refine law_lifted (C := Try.checked) (tb := 4) own started (by kernel_rfl) Try.func7
    (ChangeSpec.witness6 (enc := enc) (C := Try.checked) false ⟨#[], #[.slice none 0 0], []⟩ 8 (by kernel_rfl) (by kernel_rfl) (by kernel_rfl) (by kernel_rfl))
    laidOut (by kernel_rfl) rfl rfl Try.underlying4 ?_ ?_
  · intro ds hd
    match ds, hd with
    | [e0], _ => rfl
  · intro W base args ds p hval hA hlt hsz
    have hval1 : ∀ (j : Nat) t v, Try.f7.params[j]? = some t → args[j]? = some v → Value.okWide Try.prog W .any base t v := hval
    have hA1 : DataW.TrodAll enc Try.prog W 0 (fun _ => true) true Try.f7.params.toList args.toList ds p := hA
    have hsz1 : (DataW.weightsEach Try.prog Try.f7.params.toList ds).all (· ≤ reachBytes) = true := hsz
    rw [Try.params7] at hval1 hA1 hsz1
    clear hval hA hsz
    obtain ⟨v0, d0, rfl, rfl, h0⟩ := trodAll_one hA1
    obtain ⟨A, n, c, bs, rfl, hr, _⟩ := arg_bytes Try.underlying50 Try.underlying5 (by kernel_rfl) (hval1 0 50 v0 rfl rfl) h0 (fun x hx => hlt x (by simp [hx]))
    exact lawFnSampledPrints A n c bs W hr
theorem holds_FnSampledPrints : Rows.FnSampledPrintsSaid :=
  OpenClaim.holds_of_wide 7 Try.f7 rfl rfl rfl rfl rfl rfl rfl ⟨rfl, rfl, rfl, rfl, rfl⟩ rfl rfl rfl rfl rfl (by kernel_rfl) Try.func7 (by kernel_rfl)
    (of_decide_eq_true (by kernel_rfl)) (by unfold Func.isWrapper; first | (rw [if_pos (by decide +kernel)]; kernel_rfl) | (rw [if_neg (by decide +kernel)]; exact ⟨rfl, rfl⟩))
    (fun os started H enc _ => lifted_FnSampledPrints os started H enc)

end Go.Proofs.Ytflpllmbpfdnjaa
