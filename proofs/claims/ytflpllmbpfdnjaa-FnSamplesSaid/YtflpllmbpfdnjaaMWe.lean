/-
  The row FnSamples: the samples of a picture at its modules are those at their middles, for every picture that a code draws; no condition. Printed by gen/lfs.py.
-/
import Derived.Test.YtflpllmbpfdnjaaArgB
import Derived.Test.YtflpllmbpfdnjaaMVb
import Derived.Test.YtflpllmbpfdnjaaC26I
import Derived.Test.YtflpllmbpfdnjaaC26A
import Derived.Test.YtflpllmbpfdnjaaC26U
import Derived.Test.YtflpllmbpfdnjaaDice
import Derived.Test.YtflpllmbpfdnjaaSmP
namespace Go.Proofs.Ytflpllmbpfdnjaa
set_option linter.unusedSimpArgs false
open Go.ChangeShapes Go.WideShapes Go.ChangeAt Go.RowKit

theorem likeGrid_same (r c : Int) (A1 A2 : Option Addr) (n c1 c2 : Nat) (xs : List Int) (w : World) (B1 B2 : Nat) (hr1 : RI w B1 A1 n xs) (hr2 : RI w B2 A2 n xs) (hB1 : B1 ≤ w.heap.size) (hB2 : B2 ≤ w.heap.size) (hn : n ≤ 1000000000000) :
    Calls Try.prog 34 #[.agg #[.int .i64 r, .int .i64 c, .slice A1 n c1], .agg #[.int .i64 r, .int .i64 c, .slice A2 n c2]] w fun e w' => e = .returned (.bool true) ∧ Below w.heap.size w w' := by
  have HE := Lib.hid (fun (w' : World) (hb : Below w.heap.size w w') => likeInts_any A1 A2 n n c1 c2 xs xs w' w.heap.size w.heap.size ((hr1.more hB1).below hb) ((hr2.more hB2).below hb) hn hn)
  have hx : (xs == xs) = true := by simp
  have hr0 : (r == r) = true := by simp
  have hc0 : (c == c) = true := by simp
  clear hr1 hr2
  rw [hx] at HE
  clear hx
  go_enter Try.func34, Try.ntmps34
  go_wp2_with (go_at_call 75; refine (HE.out _ (by go_grown)).mono ?_; rintro e1 w1 ⟨rfl, m1, rfl⟩)
  go_ret
  exact ⟨rfl, below_drewN' (by go_grown) _⟩
theorem grey_in (lim mar grey : Int) : greyV lim mar grey = -1 ∨ greyV lim mar grey = 0 ∨ greyV lim mar grey = 1 := by
  unfold greyV; split
  · exact .inl rfl
  · split
    · exact .inr (.inr rfl)
    · exact .inr (.inl rfl)
theorem take_in (PR PC : Nat) (xs : List Int) (X Y W lim mar : Int) : takeV PR PC xs X Y W lim mar = -1 ∨ takeV PR PC xs X Y W lim mar = 0 ∨ takeV PR PC xs X Y W lim mar = 1 := by
  unfold takeV
  repeat (first | exact .inl rfl | exact grey_in _ _ _ | split)
/-- What a law over a picture, a map and a sampling keeps: the three boxes at b1, the pixels below b1. -/
structure FvP (w0 : World) (b1 : Nat) (o1 o2 o3 : Obj) (A : Option Addr) (L : Nat) (xs : List Int) (w : World) : Prop where
  sz : w0.heap.size ≤ b1 ∧ b1 + 1 + 1 < w.heap.size
  bl : Below w0.heap.size w0 w
  k1 : w.heap[b1]? = some o1
  k2 : w.heap[b1 + 1]? = some o2
  k3 : w.heap[b1 + 1 + 1]? = some o3
  ra : RI w b1 A L xs
theorem FvP.below {w0 : World} {b1 : Nat} {o1 o2 o3 : Obj} {A : Option Addr} {L : Nat} {xs : List Int} {w w' : World} (h : FvP w0 b1 o1 o2 o3 A L xs w) (hb : Below w.heap.size w w') : FvP w0 b1 o1 o2 o3 A L xs w' := by
  obtain ⟨⟨h1, h2⟩, hB, k1, k2, k3, ra⟩ := h
  have hs := hb.size
  exact ⟨⟨h1, by omega⟩, hB.trans (hb.mono hB.size), blk_below k1 hb (by omega), blk_below k2 hb (by omega), blk_below k3 hb h2, ra.below (hb.mono (by omega))⟩
theorem FvP.alloc {w0 : World} {b1 : Nat} {o1 o2 o3 : Obj} {A : Option Addr} {L : Nat} {xs : List Int} {w : World} (h : FvP w0 b1 o1 o2 o3 A L xs w) (o : Obj) : FvP w0 b1 o1 o2 o3 A L xs (w.alloc o) := h.below ((Below.refl _ _).alloc (Nat.le_refl _) o)
theorem FvP.new {w0 w : World} {c1 c2 c3 : Array Value} {t1 t2 t3 : Nat} {A : Option Addr} {L : Nat} {xs : List Int} {b1 : Nat} (hB : Below w0.heap.size w0 w) (hr : RI w w.heap.size A L xs) (hb : w.heap.size = b1) : FvP w0 b1 (.cells c1 t1 (0, 0)) (.cells c2 t2 (0, 0)) (.cells c3 t3 (0, 0)) A L xs (((w.alloc (.cells c1 t1)).alloc (.cells c2 t2)).alloc (.cells c3 t3)) := by
  subst hb
  exact ⟨⟨hB.size, by simp⟩, ((hB.alloc hB.size _).alloc (by have := hB.size; simp; omega) _).alloc (by have := hB.size; simp; omega) _, blk_alloc (blk_alloc (heap_alloc_new _ _) (by simp)) (by simp; omega), blk_alloc (heap_alloc_at (by simp)) (by simp), heap_alloc_at (by simp), hr.below ((((Below.refl _ _).alloc (Nat.le_refl _) _).alloc (by simp) _).alloc (by simp; omega) _)⟩
theorem grdL_all {R C : Nat} {f : Nat → Nat → Int} (h : ∀ i j, inR (f i j) (-1) 1 = true) : allIn (-1) 1 (grdL R C f) = true := by
  unfold allIn grdL
  rw [List.all_map, List.all_eq_true]
  intro i _
  exact h _ _
theorem sam_in (PR PC : Nat) (xs : List Int) (m0 m1 m2 m3 m4 m5 m6 m7 m8 : Int) (R C : Nat) (lim mar : Int) (i j : Nat) : inR (samV PR PC xs m0 m1 m2 m3 m4 m5 m6 m7 m8 R C lim mar i j) (-1) 1 = true := by
  unfold samV
  rcases take_in PR PC xs (imgI m0 m1 m2 (((2 * j + 1) * (2 * R) : Nat) : Int) (((2 * i + 1) * (2 * C) : Nat) : Int) ((2 * C * (2 * R) : Nat) : Int)) (imgI m3 m4 m5 (((2 * j + 1) * (2 * R) : Nat) : Int) (((2 * i + 1) * (2 * C) : Nat) : Int) ((2 * C * (2 * R) : Nat) : Int)) (imgI m6 m7 m8 (((2 * j + 1) * (2 * R) : Nat) : Int) (((2 * i + 1) * (2 * C) : Nat) : Int) ((2 * C * (2 * R) : Nat) : Int)) lim mar with h | h | h <;> rw [h] <;> rfl
theorem fs_good {pr pc : Int} {xs : List Int} {m0 m1 m2 m3 m4 m5 m6 m7 m8 R C lim mar : Int} (h : SampleMap_K pr pc xs m0 m1 m2 m3 m4 m5 m6 m7 m8 R C lim mar = 0) :
    ∃ R' C' : Nat, R = R' ∧ C = C' ∧ 1 ≤ R' ∧ R' ≤ 3500 ∧ 1 ≤ C' ∧ C' ≤ 3500 ∧ R' * C' ≤ 3500 ∧ (SampleMap_L pr pc xs m0 m1 m2 m3 m4 m5 m6 m7 m8 R C lim mar).length = R' * C' ∧
      unkC R C (SampleMap_L pr pc xs m0 m1 m2 m3 m4 m5 m6 m7 m8 R C lim mar) = 0 ∧ unkV R C (SampleMap_L pr pc xs m0 m1 m2 m3 m4 m5 m6 m7 m8 R C lim mar) = (cnt neg (SampleMap_L pr pc xs m0 m1 m2 m3 m4 m5 m6 m7 m8 R C lim mar) : Nat) ∧
      ∀ r c : Nat, r < R' → c < C' → saC pr pc xs m0 m1 m2 m3 m4 m5 m6 m7 m8 R C lim mar r c = 0 ∧ saV pr pc xs m0 m1 m2 m3 m4 m5 m6 m7 m8 R C lim mar r c = nth (SampleMap_L pr pc xs m0 m1 m2 m3 m4 m5 m6 m7 m8 R C lim mar) (r * C' + c) := by
  have hs : smpB pr pc xs m0 m1 m2 m3 m4 m5 m6 m7 m8 R C lim mar = true := by
    cases e : smpB pr pc xs m0 m1 m2 m3 m4 m5 m6 m7 m8 R C lim mar
    · unfold SampleMap_K at h; rw [e] at h; simp at h
    · rfl
  obtain ⟨R', C', rfl, rfl, hR1, hR2, hC1, hC2, hRC, _, _⟩ := sampling_nat (smp_true hs).2.2
  have hL : SampleMap_L pr pc xs m0 m1 m2 m3 m4 m5 m6 m7 m8 R' C' lim mar = grdL R' C' (fun i j => samV pr.toNat pc.toNat xs m0 m1 m2 m3 m4 m5 m6 m7 m8 R' C' lim mar i j) := by
    unfold SampleMap_L; rw [if_pos hs]; rfl
  rw [hL]
  have hp : (R' : Int) * C' = ((R' * C' : Nat) : Int) := by simp
  have hg : gridB R' C' (grdL R' C' (fun i j => samV pr.toNat pc.toNat xs m0 m1 m2 m3 m4 m5 m6 m7 m8 R' C' lim mar i j)) = true := by
    unfold gridB
    rw [inR_mk (by omega) (by omega), inR_mk (by omega) (by omega), grdL_len, hp, grdL_all (fun i j => sam_in _ _ _ _ _ _ _ _ _ _ _ _ _ _ _ _ i j)]
    simp; omega
  refine ⟨R', C', rfl, rfl, hR1, hR2, hC1, hC2, hRC, grdL_len _ _ _, ?_, ?_, ?_⟩
  · unfold unkC; rw [hg]; rfl
  · unfold unkV; rw [hg]; rfl
  · intro r c hr hc
    have i1 : inR (r : Int) 0 ((R' : Int) - 1) = true := inR_mk (by omega) (by omega)
    have i2 : inR (c : Int) 0 ((C' : Int) - 1) = true := inR_mk (by omega) (by omega)
    unfold saC saV
    rw [hs, i1, i2, grdL_nth hr hc]
    exact ⟨rfl, rfl⟩
/-- A grid in a box of its own. -/
structure GrP (b : Nat) (o : Obj) (A : Option Addr) (n : Nat) (xs : List Int) (w : World) : Prop where
  sz : b < w.heap.size
  k : w.heap[b]? = some o
  ra : RI w b A n xs
theorem GrP.below {b : Nat} {o : Obj} {A : Option Addr} {n : Nat} {xs : List Int} {w w' : World} {B : Nat} (h : GrP b o A n xs w) (hb : Below B w w') (hB : b < B) (hB2 : B ≤ w.heap.size) : GrP b o A n xs w' := by
  have hs := hb.size
  exact ⟨by omega, blk_below h.k hb hB, h.ra.below (hb.mono (by omega))⟩
theorem GrP.new {b : Nat} {cs : Array Value} {t : Nat} {A : Option Addr} {n : Nat} {xs : List Int} {w : World} (hb : w.heap.size = b) (hr : RI w w.heap.size A n xs) : GrP b (.cells cs t (0, 0)) A n xs (w.alloc (.cells cs t)) := by
  subst hb
  exact ⟨by simp, heap_alloc_new _ _, hr.below ((Below.refl _ _).alloc (Nat.le_refl _) _)⟩
theorem FvP.below' {w0 : World} {b1 : Nat} {o1 o2 o3 : Obj} {A : Option Addr} {L : Nat} {xs : List Int} {w w' : World} {B : Nat} (h : FvP w0 b1 o1 o2 o3 A L xs w) (hb : Below B w w') (hB : b1 + 1 + 1 < B) (hB2 : B ≤ w.heap.size) : FvP w0 b1 o1 o2 o3 A L xs w' := by
  obtain ⟨⟨h1, h2⟩, hB', k1, k2, k3, ra⟩ := h
  have hs := hb.size
  exact ⟨⟨h1, by omega⟩, hB'.trans (hb.mono (by omega)), blk_below k1 hb (by omega), blk_below k2 hb (by omega), blk_below k3 hb hB, ra.below (hb.mono (by omega))⟩
set_option maxRecDepth 20000 in
set_option maxHeartbeats 20000000 in
theorem lawFnSamples (A : Option Addr) (n c : Nat) (bs : List Int) (w : World) (hr : RB w w.heap.size A n bs) :
    Calls Try.prog 8 #[.slice A n c] w fun e' w' => e' = .returned (.bool true) ∧ Below w.heap.size w w' := by
  have HR := Lib.hid hr
  clear hr
  by_cases hbig : 4096 < n
  · have hbd : decide (4096 < n) = true := decide_eq_true hbig
    go_enter Try.func8, Try.ntmps8
    go_wp2_with (go_at_call 27; go_call (big_any _ _ _ _) as e0 w0 ⟨rfl, hb0⟩; obtain ⟨hc0, hf0⟩ := bcell hb0; have hB0 : Below w.heap.size w w0 := (below_then (by first | (go_grown; done) | (repeat (first | (with_reducible assumption) | (with_reducible exact Below.refl _ _) | (with_reducible refine below_drewN' ?_ _) | (with_reducible refine Below.drew ?_) | ((with_reducible refine Below.alloc ?_ ?_ _); rotate_left; focus (first | (simp; done) | (simp; omega) | omega)) | ((with_reducible refine Below.setCell ?_ ?_ _); rotate_left; focus (first | (simp; done) | (simp; omega) | omega))))) (by first | omega | (simp; done) | (simp; omega)) hb0))
    go_ret
    exact ⟨rfl, by (repeat (first | (with_reducible assumption) | (with_reducible exact Below.refl _ _) | (with_reducible refine below_drewN' ?_ _) | (with_reducible refine Below.drew ?_) | ((with_reducible refine Below.alloc ?_ ?_ _); rotate_left; focus (first | (simp; done) | (simp; omega) | omega)) | ((with_reducible refine Below.setCell ?_ ?_ _); rotate_left; focus (first | (simp; done) | (simp; omega) | omega))))⟩
  have hbd : decide (4096 < n) = false := decide_eq_false hbig
  have HD := Lib.hid (fun (w' : World) (hb : Below w.heap.size w w') => DrawSampleMap_any A n c bs w.heap.size w' (HR.out.below hb) hb.size (by omega))
  go_enter Try.func8, Try.ntmps8
  go_wp2_with first | (go_at_call 27; go_call (big_any _ _ _ _) as e0 w0 ⟨rfl, hb0⟩; obtain ⟨hc0, hf0⟩ := bcell hb0; have hB0 : Below w.heap.size w w0 := (below_then (by first | (go_grown; done) | (repeat (first | (with_reducible assumption) | (with_reducible exact Below.refl _ _) | (with_reducible refine below_drewN' ?_ _) | (with_reducible refine Below.drew ?_) | ((with_reducible refine Below.alloc ?_ ?_ _); rotate_left; focus (first | (simp; done) | (simp; omega) | omega)) | ((with_reducible refine Below.setCell ?_ ?_ _); rotate_left; focus (first | (simp; done) | (simp; omega) | omega))))) (by first | omega | (simp; done) | (simp; omega)) hb0))
  go_at_call 35
  with_reducible refine (HD.out _ hB0).mono ?_
  rintro e1 w1 ⟨u1, rfl, ⟨pr, pc, pv1, xs, y0, y1, y2, y3, y4, y5, y6, y7, y8, z0, z1, z2, z3, rfl, hle1, ho1⟩, hb1⟩
  have HB1 := Lib.hid (hB0.trans (hb1.mono hB0.size))
  obtain ⟨PA, pcp, rfl, -⟩ := ho1.shape
  obtain ⟨NP, hN1⟩ : ∃ L, xs.length = L := ⟨_, rfl⟩
  rw [hN1] at ho1 hle1 ⊢
  have HRI1 := Lib.hid (ho1.riS hN1)
  clear hb1 ho1 hN1

  clear hb0 hB0 hc0 hf0
  go_upto_region 4 with fail
  obtain ⟨b1, hb1⟩ : ∃ x, w1.heap.size = x := ⟨_, rfl⟩
  refine gen_world (P := fun W' => Code.wp _ _ _ _ W') (Q := fun W' => FvP w b1 (.cells #[.int .i64 pr, .int .i64 pc, .slice PA NP pcp] 32 (0, 0)) (.cells #[.int .i64 y0, .int .i64 y1, .int .i64 y2, .int .i64 y3, .int .i64 y4, .int .i64 y5, .int .i64 y6, .int .i64 y7, .int .i64 y8] 34 (0, 0)) (.cells #[.int .i64 z0, .int .i64 z1, .int .i64 z2, .int .i64 z3] 36 (0, 0)) PA NP xs W') ?_ ?_
  · exact FvP.new HB1.out HRI1.out hb1
  intro w2 hp2
  have HP2 := Lib.hid hp2
  rw [hb1]
  clear hp2 HRI1 HB1 hb1

  have C12 := fun (w' : World) (h : FvP w b1 (.cells #[.int .i64 pr, .int .i64 pc, .slice PA NP pcp] 32 (0, 0)) (.cells #[.int .i64 y0, .int .i64 y1, .int .i64 y2, .int .i64 y3, .int .i64 y4, .int .i64 y5, .int .i64 y6, .int .i64 y7, .int .i64 y8] 34 (0, 0)) (.cells #[.int .i64 z0, .int .i64 z1, .int .i64 z2, .int .i64 z3] 36 (0, 0)) PA NP xs w') => SampleMap_any pr pc PA NP pcp xs y0 y1 y2 y3 y4 y5 y6 y7 y8 z0 z1 z2 z3 w' b1 h.ra (by have := h.sz; omega) (by omega)
  have C22 := fun (w' : World) (h : FvP w b1 (.cells #[.int .i64 pr, .int .i64 pc, .slice PA NP pcp] 32 (0, 0)) (.cells #[.int .i64 y0, .int .i64 y1, .int .i64 y2, .int .i64 y3, .int .i64 y4, .int .i64 y5, .int .i64 y6, .int .i64 y7, .int .i64 y8] 34 (0, 0)) (.cells #[.int .i64 z0, .int .i64 z1, .int .i64 z2, .int .i64 z3] 36 (0, 0)) PA NP xs w') => sSampleMap_any pr pc PA NP pcp xs y0 y1 y2 y3 y4 y5 y6 y7 y8 z0 z1 z2 z3 w' b1 h.ra (by have := h.sz; omega) (by omega)
  have gle2 := SampleMap_le pr pc xs y0 y1 y2 y3 y4 y5 y6 y7 y8 z0 z1 z2 z3
  obtain ⟨K2, hK2⟩ : ∃ K, SampleMap_K pr pc xs y0 y1 y2 y3 y4 y5 y6 y7 y8 z0 z1 z2 z3 = K := ⟨_, rfl⟩
  obtain ⟨G2, hG2⟩ : ∃ G, SampleMap_L pr pc xs y0 y1 y2 y3 y4 y5 y6 y7 y8 z0 z1 z2 z3 = G := ⟨_, rfl⟩
  rw [hG2] at gle2
  rw [hK2, hG2] at C12 C22
  generalize hGR2 : gI K2 z0 = GR2 at C12 C22
  have HGR2 := Lib.hid hGR2
  clear hGR2
  generalize hGC2 : gI K2 z1 = GC2 at C12 C22
  have HGC2 := Lib.hid hGC2
  clear hGC2
  have HC12 := Lib.hid C12
  have HC22 := Lib.hid C22
  obtain ⟨N2, hN2⟩ : ∃ N, G2.length = N := ⟨_, rfl⟩
  rw [hN2] at gle2
  have HN2 := Lib.hid hN2
  have HK2 := Lib.hid hK2
  have HG2 := Lib.hid hG2
  have hkk2 : (K2 != K2) = false := by simp
  clear C12 C22 hK2 hG2 hN2
  obtain ⟨p0, p1, p2, -⟩ := blk3 HP2.out.k1
  obtain ⟨n0, n1, n2, n3, n4, n5, n6, n7, n8, -⟩ := blk9 HP2.out.k2
  obtain ⟨s0, s1, s2, s3, -⟩ := blk4 HP2.out.k3
  have hzz := HP2.out.sz
  have hz1 : b1 < w2.heap.size := by omega
  have hz2 : b1 + 1 < w2.heap.size := by omega
  have hz3 : b1 + 1 + 1 < w2.heap.size := by omega
  go_wp2_with fail
  go_at_call 18
  with_reducible refine (HC12.out _ HP2.out).mono ?_
  rintro e3 w3 ⟨v3, rfl, ho3, hb3⟩
  obtain ⟨A3, c3, rfl, -⟩ := ho3.shape
  rw [HN2.out] at ho3 ⊢
  have HR3 := Lib.hid (ho3.riS HN2.out)
  have HP3 := Lib.hid (HP2.out.below hb3)
  clear hb3 ho3
  clear p0 p1 p2 n0 n1 n2 n3 n4 n5 n6 n7 n8 s0 s1 s2 s3 hz1 hz2 hz3 hzz
  obtain ⟨p0, p1, p2, -⟩ := blk3 HP3.out.k1
  obtain ⟨n0, n1, n2, n3, n4, n5, n6, n7, n8, -⟩ := blk9 HP3.out.k2
  obtain ⟨s0, s1, s2, s3, -⟩ := blk4 HP3.out.k3
  have hzz := HP3.out.sz
  have hz1 : b1 < w3.heap.size := by omega
  have hz2 : b1 + 1 < w3.heap.size := by omega
  have hz3 : b1 + 1 + 1 < w3.heap.size := by omega
  go_wp2_with fail
  go_at_call 17
  with_reducible refine (HC22.out _ (HP3.out.alloc _)).mono ?_
  rintro e4 w4 ⟨v4, rfl, ho4, hb4⟩
  obtain ⟨A4, c4, rfl, -⟩ := ho4.shape
  rw [HN2.out] at ho4 ⊢
  have HR4 := Lib.hid (ho4.riS HN2.out)
  have HB4 := Lib.hid (blk_below (heap_alloc_new w3 (.cells #[.int .i64 GR2, .int .i64 GC2, .slice A3 N2 c3] 41)) hb4 (by simp))
  have HQ4 := Lib.hid ((HR3.out.below ((Below.refl w3.heap.size w3).alloc (Nat.le_refl _) (.cells #[.int .i64 GR2, .int .i64 GC2, .slice A3 N2 c3] 41))).below (hb4.mono (by simp)))
  have HP4 := Lib.hid ((HP3.out.alloc (.cells #[.int .i64 GR2, .int .i64 GC2, .slice A3 N2 c3] 41)).below hb4)
  obtain ⟨bb4, hbb4⟩ : ∃ x, w3.heap.size = x := ⟨_, rfl⟩
  rw [hbb4] at HB4 HQ4 ⊢
  have hzb4 : bb4 < w4.heap.size := lt_of_block HB4.out
  clear hb4 ho4 hbb4 HR3
  clear p0 p1 p2 n0 n1 n2 n3 n4 n5 n6 n7 n8 s0 s1 s2 s3 hz1 hz2 hz3 hzz
  obtain ⟨i0, i1, i2, -⟩ := blk3 HB4.out

  go_upto_region 6 with fail
  obtain ⟨bm, hbm⟩ : ∃ x, w4.heap.size = x := ⟨_, rfl⟩
  have hbbm : bb4 < bm := by omega
  refine gen_world (P := fun W' => Code.wp _ _ _ _ W') (Q := fun W' => FvP w b1 (.cells #[.int .i64 pr, .int .i64 pc, .slice PA NP pcp] 32 (0, 0)) (.cells #[.int .i64 y0, .int .i64 y1, .int .i64 y2, .int .i64 y3, .int .i64 y4, .int .i64 y5, .int .i64 y6, .int .i64 y7, .int .i64 y8] 34 (0, 0)) (.cells #[.int .i64 z0, .int .i64 z1, .int .i64 z2, .int .i64 z3] 36 (0, 0)) PA NP xs W' ∧ GrP bb4 (.cells #[.int .i64 GR2, .int .i64 GC2, .slice A3 N2 c3] 41 (0, 0)) A3 N2 G2 W' ∧ GrP bm (.cells #[.int .i64 GR2, .int .i64 GC2, .slice A4 N2 c4] 41 (0, 0)) A4 N2 G2 W') ?_ ?_
  · exact ⟨HP4.out.alloc _, (GrP.mk hzb4 HB4.out HQ4.out).below ((Below.refl _ _).alloc (Nat.le_refl _) _) hzb4 (Nat.le_refl _), GrP.new hbm HR4.out⟩
  rintro w5 ⟨hp5, hg5, hm5⟩
  have HP5 := Lib.hid hp5
  have HG5 := Lib.hid hg5
  have HM5 := Lib.hid hm5
  have hzm5 := hm5.sz
  have hzp5 := hp5.sz
  have hzg5 := hg5.sz
  have hzs5 := hp5.sz.2
  (first | rw [hbm] | skip)
  clear hp5 hg5 hm5 HB4 HQ4 HR4 HP4 HP3 i0 i1 i2
  have HLG := Lib.hid (fun (w' : World) (hb : Below w5.heap.size w5 w') => likeGrid_same GR2 GC2 A3 A4 N2 c3 c4 G2 w' bb4 bm (HG5.out.below hb (by omega) (Nat.le_refl _)).ra (HM5.out.below hb hzm5 (Nat.le_refl _)).ra (by have := hb.size; omega) (by have := hb.size; omega) (by omega))
  have HIS := Lib.hid (fun w' => IsSampling_any z0 z1 z2 z3 w')
  have HIS' := Lib.hid (fun w' => sIsSampling_any z0 z1 z2 z3 w')
  generalize isSamplingB z0 z1 z2 z3 = SB at HIS HIS'
  have h3 : (SB != SB) = false := by simp
  obtain ⟨s0, s1, s2, s3, -⟩ := blk4 HP5.out.k3
  obtain ⟨i0, i1, i2, -⟩ := blk3 HG5.out.k
  obtain ⟨j0, j1, j2, -⟩ := blk3 HM5.out.k

  refine wp_region_qat [] 16 [] (by kernel_rfl) (by kernel_rfl) ?_
  intro hbc
  simp only [List.take_succ_cons, List.take_zero, List.drop_succ_cons, List.drop_zero]
  repeat (first
    | refine wpQ_pass rfl ?_
    | (refine wpQ_step rfl (fun K hK => ?_)
       go_simp
       first
         | (refine hK _ ?_; clear hK K)
         | (apply Exists.intro
            refine ⟨fun z => ?_, ?_⟩
            focus (first | (go_at_call 34; exact HLG.out _ (below_blurH (Below.refl _ _) (Nat.le_refl _) _)) | (go_at_call 36; exact HIS.out _) | (go_at_call 33; exact HIS'.out _))
            refine hK _ ?_
            clear hK K)))
  refine wpQ_nil ⟨?_, ?_⟩
  · exact rfl
  intro  w6 hb6 hF6
  clear hbc
  obtain ⟨hc6, hf6⟩ := bcell hb6
  clear hF6
  try simp only [Act.put, List.setIfInBounds_toArray, List.set_cons_succ, List.set_cons_zero]
  have HP6 := Lib.hid (HP5.out.below hb6)
  have HG6 := Lib.hid (HG5.out.below hb6 (by omega) (Nat.le_refl _))
  have HM6 := Lib.hid (HM5.out.below hb6 hzm5 (Nat.le_refl _))
  clear h3 hb6 hc6 hf6 s0 s1 s2 s3 i0 i1 i2 j0 j1 j2 HLG HIS HIS' HP5 HG5 HM5
  by_cases hK : K2 = 0
  rotate_left
  · have hK' : (K2 != 0) = true := by simpa using hK
    clear hK
    go_wp2_with fail
    go_ret
    exact ⟨rfl, HP6.out.bl⟩
  have hK' : (K2 != 0) = false := by simpa using hK
  obtain ⟨R, C, rfl, rfl, hR1, hR2, hC1, hC2, hRC, hlen, huc, huv, hsa⟩ := fs_good (HK2.out.trans hK)
  rw [HG2.out] at hlen huc huv hsa
  have e1 : (R : Int) = GR2 := by have := HGR2.out; rw [hK, gI_0] at this; exact this
  have e2 : (C : Int) = GC2 := by have := HGC2.out; rw [hK, gI_0] at this; exact this
  subst e1 e2 hK
  have HNN : Hid (N2 = R * C) := Lib.hid (by rw [← HN2.out, hlen])
  have HUC := Lib.hid huc
  have HUV := Lib.hid huv
  have HSA := Lib.hid hsa
  have HLE := Lib.hid hlen
  clear huc huv hsa hlen
  have h6m := HM6.out.sz
  have h6p := HP6.out.sz
  obtain ⟨s0, s1, s2, s3, -⟩ := blk4 HP6.out.k3
  go_wp2_with fail

  go_at_call 37
  with_reducible refine (roll_any A n c bs 2601 _ w.heap.size (HR.out.below HP6.out.bl) HP6.out.bl.size (by omega) (by omega) (by omega)).mono ?_
  rintro e7 w7 ⟨rfl, hdw, hb7⟩
  have HD7 : Hid (DiceW w7.drew 113 w6.heap.size A n c) := Lib.hid hdw
  obtain ⟨x70, x71, -, -, -⟩ := blk4 (blk_below HP6.out.k3 hb7 (by omega))
  have HB7 : Hid (Below w6.heap.size w6 w7.drew) := Lib.hid hb7.drew
  have HL6 := Lib.hid HP6.out.bl.size
  clear s0 s1 s2 s3 hdw hb7
  obtain ⟨bd, hbd'⟩ : ∃ x, w6.heap.size = x := ⟨_, rfl⟩
  rw [hbd'] at HD7 HB7 HL6 h6m h6p ⊢
  go_wp2_with fail

  go_region_held3 (fun w' => w'.cell? ⟨b1 + 1 + 1, 0, none⟩ = some (.int .i64 (R : Int)) ∧ w'.cell? ⟨b1 + 1 + 1, 1, none⟩ = some (.int .i64 (C : Int)))
    (first | exact ⟨x70, x71⟩ | exact ⟨x80, x81⟩ | exact ⟨x90, x91⟩ | go_keep)
    (first
      | (go_at_call 38
         with_reducible refine (dice_below_any bd A n c bs R _ w.heap.size HD7.out (HR.out.below (HP6.out.bl.trans (HB7.out.mono HL6.out))) HL6.out (by omega) (by omega) (by omega)).mono ?_
         rintro e8 w8 ⟨rr, rfl, hr0, hr1, hdw8, hg8⟩
         have hb8 : Below bd w6 w8 := HB7.out.grown hg8 (by have := HB7.out.size; omega) (fun q hq => by have h' : bd = q := (by simpa using hq); omega)
         obtain ⟨x80, x81, -, -, -⟩ := blk4 (blk_below HP6.out.k3 hb8 (by omega)))
      | (go_at_call 38
         with_reducible refine (dice_below_any bd A n c bs C _ w.heap.size hdw8 (HR.out.below (HP6.out.bl.trans (hb8.mono HL6.out))) HL6.out (by omega) (by omega) (by omega)).mono ?_
         rintro e9 w9 ⟨cc, rfl, hq0, hq1, hdw9, hg9⟩
         have hb9 : Below bd w6 w9 := hb8.grown hg9 (by have := hb8.size; omega) (fun q hq => by have h' : bd = q := (by simpa using hq); omega)
         obtain ⟨x90, x91, -, -, -⟩ := blk4 (blk_below HP6.out.k3 hb9 (by omega))))

  have HP9 := Lib.hid (HP6.out.below' hb9 h6p.2 (by omega))
  have HG9 := Lib.hid (HG6.out.below hb9 (by omega) (by omega))
  have HM9 := Lib.hid (HM6.out.below hb9 h6m (by omega))
  have h9m := HM9.out.sz
  have h9p := HP9.out.sz
  obtain ⟨r', rfl⟩ := Int.eq_ofNat_of_zero_le hr0
  obtain ⟨c', rfl⟩ := Int.eq_ofNat_of_zero_le hq0
  have hr' : r' < R := by omega
  have hc' : c' < C := by omega
  obtain ⟨t1, t2⟩ := HSA.out r' c' hr' hc'
  have HT := Lib.hid (cell_lt2 hr' hc')
  have HSM := Lib.hid (fun (w' : World) (h : FvP w b1 (.cells #[.int .i64 pr, .int .i64 pc, .slice PA NP pcp] 32 (0, 0)) (.cells #[.int .i64 y0, .int .i64 y1, .int .i64 y2, .int .i64 y3, .int .i64 y4, .int .i64 y5, .int .i64 y6, .int .i64 y7, .int .i64 y8] 34 (0, 0)) (.cells #[.int .i64 (R : Int), .int .i64 (C : Int), .int .i64 z2, .int .i64 z3] 36 (0, 0)) PA NP xs w') => SampleAt_any pr pc PA NP pcp xs y0 y1 y2 y3 y4 y5 y6 y7 y8 R C z2 z3 r' c' w' b1 h.ra (by have := h.sz; omega) (by omega))
  rw [t1, t2] at HSM
  clear t1 t2 hb8 hb9 hg8 hg9 hdw8 hdw9 x70 x71 x80 x81 x90 x91 HP6 HG6 HM6 hr0 hr1 hq0 hq1
  go_upto_region 12 with fail

  obtain ⟨p0, p1, p2, -⟩ := blk3 HP9.out.k1
  obtain ⟨n0, n1, n2, n3, n4, n5, n6, n7, n8, -⟩ := blk9 HP9.out.k2
  obtain ⟨s0, s1, s2, s3, -⟩ := blk4 HP9.out.k3
  have hzz := HP9.out.sz
  have hz1 : b1 < w9.heap.size := by omega
  have hz2 : b1 + 1 < w9.heap.size := by omega
  have hz3 : b1 + 1 + 1 < w9.heap.size := by omega
  go_wp2_with fail
  go_at_call 15
  with_reducible refine (HSM.out _ HP9.out).mono ?_
  rintro e10 w10 ⟨rfl, hb10⟩
  have HP10 := Lib.hid (HP9.out.below hb10)
  have HG10 := Lib.hid (HG9.out.below hb10 (by omega) (Nat.le_refl _))
  have HM10 := Lib.hid (HM9.out.below hb10 h9m (Nat.le_refl _))
  have h10m := HM10.out.sz
  clear hb10 HP9 HG9 HM9
  clear p0 p1 p2 n0 n1 n2 n3 n4 n5 n6 n7 n8 s0 s1 s2 s3 hz1 hz2 hz3 hzz
  obtain ⟨i0, i1, i2, -⟩ := blk3 HG10.out.k
  have HUK := Lib.hid (fun (w' : World) (h : GrP bb4 (.cells #[.int .i64 (R : Int), .int .i64 (C : Int), .slice A3 N2 c3] 41 (0, 0)) A3 N2 G2 w') => UnknownCells_any R C A3 N2 c3 G2 w' bb4 h.ra (by have := h.sz; omega) (by omega))
  rw [HUC.out, HUV.out] at HUK
  go_wp2_with fail
  go_at_call 39
  with_reducible refine (HUK.out _ HG10.out).mono ?_
  rintro e11 w11 ⟨rfl, hb11⟩
  have HP11 := Lib.hid (HP10.out.below hb11)
  have HG11 := Lib.hid (HG10.out.below hb11 (by omega) (Nat.le_refl _))
  have HM11 := Lib.hid (HM10.out.below hb11 h10m (Nat.le_refl _))
  have h11m := HM11.out.sz
  clear hb11 HP10 HG10 HM10 i0 i1 i2

  obtain ⟨i0, i1, i2, -⟩ := blk3 HG11.out.k
  obtain ⟨j0, j1, j2, -⟩ := blk3 HM11.out.k
  obtain ⟨s0, s1, s2, s3, -⟩ := blk4 HP11.out.k3
  have hle := cnt_le neg G2
  rw [HN2.out] at hle
  go_wp2_with fail
  go_loop [17, 18] (fun q i => ∃ k : Nat, k ≤ N2 ∧ i = .int .i64 k ∧ q = .int .i64 (cnt neg (G2.take k) : Nat)) (fun _ i => N2 - (intOf i).toNat)
  case atStart => exact ⟨0, Nat.zero_le _, rfl, rfl⟩
  case round =>
    obtain ⟨k, hk, rfl, rfl⟩ := hrel
    by_cases hlt : k < N2
    · obtain ⟨b, o, rfl, hb, hc⟩ := HG11.out.ra.cells (by omega)
      have hck := hc k hlt
      clear hc
      have hle := cnt_take_le neg G2 k
      have hst := cnt_take (p := neg) (xs := G2) (k := k) (by rw [HN2.out]; exact hlt)
      have HS := Lib.hid hst
      clear hst
      by_cases he : nth G2 k < 0
      · go_wp2_with fail
        go_round
        case rel => exact ⟨k + 1, by omega, by go_num, by rw [HS.out]; simp [neg, he]⟩
        case measure => simp [intOf]; omega
      · go_wp2_with fail
        go_round
        case rel => exact ⟨k + 1, by omega, by go_num, by rw [HS.out]; simp [neg, he]⟩
        case measure => simp [intOf]; omega
    · have hkn : k = N2 := by omega
      subst hkn
      have htk : G2.take k = G2 := by rw [← HN2.out]; exact List.take_length
      rw [htk]
      obtain ⟨b, o, rfl, hb, hc⟩ := HM11.out.ra.cells (by have := HT.out; have := HNN.out; omega)
      have hT := HT.out
      have hck := hc (r' * C + c') (by have := HNN.out; omega)
      clear hc
      obtain ⟨J, hJ⟩ : ∃ J, r' * C + c' = J := ⟨_, rfl⟩
      have hm0 : (r' : Int) * C + c' = (J : Int) := by rw [← hJ]; simp
      rw [hJ] at hck hT ⊢
      have hJk : J < k := by have := HNN.out; omega
      have hJk' : (J : Int) < (k : Int) := by omega
      go_wp2_with fail
      go_ret
      exact ⟨by simp, HP11.out.bl⟩
set_option maxRecDepth 100000 in
theorem lifted_FnSamples (os : Os) (started : os.Started) (H : Type) (enc : TypeId × Value → H) :
    ReturnsInHanded {} Try.checked os 8 .any (Rows.fnSamplesSpec.pre6 enc Try.prog Try.f8 Rows.fnSamplesRow.domain false) (Rows.fnSamplesSpec.post enc Try.prog Try.f8 false true false false) := by
  refine law_lifted (C := Try.checked) (tb := 4) own started (by kernel_rfl) Try.func8
    (ChangeSpec.witness6 (enc := enc) (C := Try.checked) false ⟨#[], #[.slice none 0 0], []⟩ 8 (by kernel_rfl) (by kernel_rfl) (by kernel_rfl) (by kernel_rfl))
    laidOut (by kernel_rfl) rfl rfl Try.underlying4 ?_ ?_
  · intro ds hd
    match ds, hd with
    | [e0], _ => rfl
  · intro W base args ds p hval hA hlt hsz
    have hval1 : ∀ (j : Nat) t v, Try.f8.params[j]? = some t → args[j]? = some v → Value.okWide Try.prog W .any base t v := hval
    have hA1 : DataW.TrodAll enc Try.prog W 0 (fun _ => true) true Try.f8.params.toList args.toList ds p := hA
    have hsz1 : (DataW.weightsEach Try.prog Try.f8.params.toList ds).all (· ≤ reachBytes) = true := hsz
    rw [Try.params8] at hval1 hA1 hsz1
    clear hval hA hsz
    obtain ⟨v0, d0, rfl, rfl, h0⟩ := trodAll_one hA1
    obtain ⟨A, n, c, bs, rfl, hr, _⟩ := arg_bytes Try.underlying50 Try.underlying5 (by kernel_rfl) (hval1 0 50 v0 rfl rfl) h0 (fun x hx => hlt x (by simp [hx]))
    exact lawFnSamples A n c bs W hr
theorem holds_FnSamples : Rows.FnSamplesSaid :=
  OpenClaim.holds_of_wide 8 Try.f8 rfl rfl rfl rfl rfl rfl rfl ⟨rfl, rfl, rfl, rfl, rfl⟩ rfl rfl rfl rfl rfl (by kernel_rfl) Try.func8 (by kernel_rfl)
    (of_decide_eq_true (by kernel_rfl)) (by unfold Func.isWrapper; first | (rw [if_pos (by decide +kernel)]; kernel_rfl) | (rw [if_neg (by decide +kernel)]; exact ⟨rfl, rfl⟩))
    (fun os started H enc _ => lifted_FnSamples os started H enc)

end Go.Proofs.Ytflpllmbpfdnjaa
