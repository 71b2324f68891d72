/-
  The row FnVotes: sampling five times and in lines follows the majority, for every picture that a code draws; no condition. Printed by gen/lfv.py.
-/
import Derived.Test.YtflpllmbpfdnjaaArgB
import Derived.Test.YtflpllmbpfdnjaaMVb
import Derived.Test.YtflpllmbpfdnjaaMSb
import Derived.Test.YtflpllmbpfdnjaaSmP
namespace Go.Proofs.Ytflpllmbpfdnjaa
set_option linter.unusedSimpArgs false
open Go.ChangeShapes Go.WideShapes Go.ChangeAt Go.RowKit

theorem likeGrid_same (r c : Int) (A1 A2 : Option Addr) (n c1 c2 : Nat) (xs : List Int) (w : World) (B1 B2 : Nat) (hr1 : RI w B1 A1 n xs) (hr2 : RI w B2 A2 n xs) (hB1 : B1 ≤ w.heap.size) (hB2 : B2 ≤ w.heap.size) (hn : n ≤ 1000000000000) :
    Calls Try.prog 34 #[.agg #[.int .i64 r, .int .i64 c, .slice A1 n c1], .agg #[.int .i64 r, .int .i64 c, .slice A2 n c2]] w fun e w' => e = .returned (.bool true) ∧ Below w.heap.size w w' := by
  have HE := Lib.hid (fun (w' : World) (hb : Below w.heap.size w w') => likeInts_any A1 A2 n n c1 c2 xs xs w' w.heap.size w.heap.size ((hr1.more hB1).below hb) ((hr2.more hB2).below hb) hn hn)
  have hx : (xs == xs) = true := by simp
  have hr0 : (r == r) = true := by simp
  have hc0 : (c == c) = true := by simp
  clear hr1 hr2
  rw [hx] at HE
  clear hx
  go_enter Try.func34, Try.ntmps34
  go_wp2_with (go_at_call 75; refine (HE.out _ (by go_grown)).mono ?_; rintro e1 w1 ⟨rfl, m1, rfl⟩)
  go_ret
  exact ⟨rfl, below_drewN' (by go_grown) _⟩
theorem grey_in (lim mar grey : Int) : greyV lim mar grey = -1 ∨ greyV lim mar grey = 0 ∨ greyV lim mar grey = 1 := by
  unfold greyV; split
  · exact .inl rfl
  · split
    · exact .inr (.inr rfl)
    · exact .inr (.inl rfl)
theorem take_in (PR PC : Nat) (xs : List Int) (X Y W lim mar : Int) : takeV PR PC xs X Y W lim mar = -1 ∨ takeV PR PC xs X Y W lim mar = 0 ∨ takeV PR PC xs X Y W lim mar = 1 := by
  unfold takeV
  repeat (first | exact .inl rfl | exact grey_in _ _ _ | split)
theorem vote1 {v : Int} (h : v = -1 ∨ v = 0 ∨ v = 1) : voteV [v] = v := by rcases h with rfl | rfl | rfl <;> rfl
theorem fv_good {pr pc : Int} {xs : List Int} {m0 m1 m2 m3 m4 m5 m6 m7 m8 R C lim mar : Int} (h : SampleFive_K pr pc xs m0 m1 m2 m3 m4 m5 m6 m7 m8 R C lim mar = 0) :
    SampleStack_K pr pc xs m0 m1 m2 m3 m4 m5 m6 m7 m8 R C lim mar 1 = 0 ∧ SampleMap_K pr pc xs m0 m1 m2 m3 m4 m5 m6 m7 m8 R C lim mar = 0 ∧ SampleStack_L pr pc xs m0 m1 m2 m3 m4 m5 m6 m7 m8 R C lim mar 1 = SampleMap_L pr pc xs m0 m1 m2 m3 m4 m5 m6 m7 m8 R C lim mar := by
  have hs : smpB pr pc xs m0 m1 m2 m3 m4 m5 m6 m7 m8 R C lim mar = true := by
    cases e : smpB pr pc xs m0 m1 m2 m3 m4 m5 m6 m7 m8 R C lim mar
    · unfold SampleFive_K at h; rw [e] at h; simp at h
    · rfl
  have i3 : inR 1 1 7 = true := rfl
  refine ⟨?_, ?_, ?_⟩
  · unfold SampleStack_K; rw [if_pos hs, i3, if_pos rfl]
  · unfold SampleMap_K; rw [if_pos hs]
  · unfold SampleStack_L SampleMap_L
    rw [if_pos hs, if_pos hs, i3, if_pos rfl]
    congr 1
    funext i j
    show voteV [tkF _ _ _ m0 m1 m2 m3 m4 m5 m6 m7 m8 _ _ (2 * j + 1) (2 * C.toNat) (2 * (i * 1 + 0) + 1) (2 * R.toNat * 1)] = _
    rw [Nat.mul_one, Nat.add_zero, Nat.mul_one]
    exact vote1 (take_in _ _ _ _ _ _ _ _)
/-- What a law over a picture, a map and a sampling keeps: the three boxes at b1, the pixels below b1. -/
structure FvP (w0 : World) (b1 : Nat) (o1 o2 o3 : Obj) (A : Option Addr) (L : Nat) (xs : List Int) (w : World) : Prop where
  sz : w0.heap.size ≤ b1 ∧ b1 + 1 + 1 < w.heap.size
  bl : Below w0.heap.size w0 w
  k1 : w.heap[b1]? = some o1
  k2 : w.heap[b1 + 1]? = some o2
  k3 : w.heap[b1 + 1 + 1]? = some o3
  ra : RI w b1 A L xs
theorem FvP.below {w0 : World} {b1 : Nat} {o1 o2 o3 : Obj} {A : Option Addr} {L : Nat} {xs : List Int} {w w' : World} (h : FvP w0 b1 o1 o2 o3 A L xs w) (hb : Below w.heap.size w w') : FvP w0 b1 o1 o2 o3 A L xs w' := by
  obtain ⟨⟨h1, h2⟩, hB, k1, k2, k3, ra⟩ := h
  have hs := hb.size
  exact ⟨⟨h1, by omega⟩, hB.trans (hb.mono hB.size), blk_below k1 hb (by omega), blk_below k2 hb (by omega), blk_below k3 hb h2, ra.below (hb.mono (by omega))⟩
theorem FvP.alloc {w0 : World} {b1 : Nat} {o1 o2 o3 : Obj} {A : Option Addr} {L : Nat} {xs : List Int} {w : World} (h : FvP w0 b1 o1 o2 o3 A L xs w) (o : Obj) : FvP w0 b1 o1 o2 o3 A L xs (w.alloc o) := h.below ((Below.refl _ _).alloc (Nat.le_refl _) o)
theorem FvP.new {w0 w : World} {c1 c2 c3 : Array Value} {t1 t2 t3 : Nat} {A : Option Addr} {L : Nat} {xs : List Int} {b1 : Nat} (hB : Below w0.heap.size w0 w) (hr : RI w w.heap.size A L xs) (hb : w.heap.size = b1) : FvP w0 b1 (.cells c1 t1 (0, 0)) (.cells c2 t2 (0, 0)) (.cells c3 t3 (0, 0)) A L xs (((w.alloc (.cells c1 t1)).alloc (.cells c2 t2)).alloc (.cells c3 t3)) := by
  subst hb
  exact ⟨⟨hB.size, by simp⟩, ((hB.alloc hB.size _).alloc (by have := hB.size; simp; omega) _).alloc (by have := hB.size; simp; omega) _, blk_alloc (blk_alloc (heap_alloc_new _ _) (by simp)) (by simp; omega), blk_alloc (heap_alloc_at (by simp)) (by simp), heap_alloc_at (by simp), hr.below ((((Below.refl _ _).alloc (Nat.le_refl _) _).alloc (by simp) _).alloc (by simp; omega) _)⟩
set_option maxRecDepth 20000 in
set_option maxHeartbeats 20000000 in
theorem lawFnVotes (A : Option Addr) (n c : Nat) (bs : List Int) (w : World) (hr : RB w w.heap.size A n bs) :
    Calls Try.prog 9 #[.slice A n c] w fun e' w' => e' = .returned (.bool true) ∧ Below w.heap.size w w' := by
  have HR := Lib.hid hr
  clear hr
  by_cases hbig : 4096 < n
  · have hbd : decide (4096 < n) = true := decide_eq_true hbig
    go_enter Try.func9, Try.ntmps9
    go_wp2_with (go_at_call 27; go_call (big_any _ _ _ _) as e0 w0 ⟨rfl, hb0⟩; obtain ⟨hc0, hf0⟩ := bcell hb0; have hB0 : Below w.heap.size w w0 := (below_then (by first | (go_grown; done) | (repeat (first | (with_reducible assumption) | (with_reducible exact Below.refl _ _) | (with_reducible refine below_drewN' ?_ _) | (with_reducible refine Below.drew ?_) | ((with_reducible refine Below.alloc ?_ ?_ _); rotate_left; focus (first | (simp; done) | (simp; omega) | omega)) | ((with_reducible refine Below.setCell ?_ ?_ _); rotate_left; focus (first | (simp; done) | (simp; omega) | omega))))) (by first | omega | (simp; done) | (simp; omega)) hb0))
    go_ret
    exact ⟨rfl, by (repeat (first | (with_reducible assumption) | (with_reducible exact Below.refl _ _) | (with_reducible refine below_drewN' ?_ _) | (with_reducible refine Below.drew ?_) | ((with_reducible refine Below.alloc ?_ ?_ _); rotate_left; focus (first | (simp; done) | (simp; omega) | omega)) | ((with_reducible refine Below.setCell ?_ ?_ _); rotate_left; focus (first | (simp; done) | (simp; omega) | omega))))⟩
  have hbd : decide (4096 < n) = false := decide_eq_false hbig
  have HD := Lib.hid (fun (w' : World) (hb : Below w.heap.size w w') => DrawSampleFive_any A n c bs w.heap.size w' (HR.out.below hb) hb.size (by omega))
  have HD2 := Lib.hid (fun (w' : World) (hb : Below w.heap.size w w') => DrawSampleStack_any A n c bs w.heap.size w' (HR.out.below hb) hb.size (by omega))
  go_enter Try.func9, Try.ntmps9
  go_wp2_with first | (go_at_call 27; go_call (big_any _ _ _ _) as e0 w0 ⟨rfl, hb0⟩; obtain ⟨hc0, hf0⟩ := bcell hb0; have hB0 : Below w.heap.size w w0 := (below_then (by first | (go_grown; done) | (repeat (first | (with_reducible assumption) | (with_reducible exact Below.refl _ _) | (with_reducible refine below_drewN' ?_ _) | (with_reducible refine Below.drew ?_) | ((with_reducible refine Below.alloc ?_ ?_ _); rotate_left; focus (first | (simp; done) | (simp; omega) | omega)) | ((with_reducible refine Below.setCell ?_ ?_ _); rotate_left; focus (first | (simp; done) | (simp; omega) | omega))))) (by first | omega | (simp; done) | (simp; omega)) hb0))
  go_at_call 40
  with_reducible refine (HD.out _ hB0).mono ?_
  rintro e1 w1 ⟨u1, rfl, ⟨pr, pc, pv1, xs, y0, y1, y2, y3, y4, y5, y6, y7, y8, z0, z1, z2, z3, rfl, hle1, ho1⟩, hb1⟩
  have HB1 := Lib.hid (hB0.trans (hb1.mono hB0.size))
  obtain ⟨PA, pcp, rfl, -⟩ := ho1.shape
  obtain ⟨NP, hN1⟩ : ∃ L, xs.length = L := ⟨_, rfl⟩
  rw [hN1] at ho1 hle1 ⊢
  have HRI1 := Lib.hid (ho1.riS hN1)
  clear hb1 ho1 hN1

  clear hb0 hB0 hc0 hf0
  go_upto_region 4 with fail
  obtain ⟨b1, hb1⟩ : ∃ x, w1.heap.size = x := ⟨_, rfl⟩
  refine gen_world (P := fun W' => Code.wp _ _ _ _ W') (Q := fun W' => FvP w b1 (.cells #[.int .i64 pr, .int .i64 pc, .slice PA NP pcp] 32 (0, 0)) (.cells #[.int .i64 y0, .int .i64 y1, .int .i64 y2, .int .i64 y3, .int .i64 y4, .int .i64 y5, .int .i64 y6, .int .i64 y7, .int .i64 y8] 34 (0, 0)) (.cells #[.int .i64 z0, .int .i64 z1, .int .i64 z2, .int .i64 z3] 36 (0, 0)) PA NP xs W') ?_ ?_
  · exact FvP.new HB1.out HRI1.out hb1
  intro w2 hp2
  have HP2 := Lib.hid hp2
  rw [hb1]
  clear hp2 HRI1 HB1 hb1

  have C12 := fun (w' : World) (h : FvP w b1 (.cells #[.int .i64 pr, .int .i64 pc, .slice PA NP pcp] 32 (0, 0)) (.cells #[.int .i64 y0, .int .i64 y1, .int .i64 y2, .int .i64 y3, .int .i64 y4, .int .i64 y5, .int .i64 y6, .int .i64 y7, .int .i64 y8] 34 (0, 0)) (.cells #[.int .i64 z0, .int .i64 z1, .int .i64 z2, .int .i64 z3] 36 (0, 0)) PA NP xs w') => SampleFive_any pr pc PA NP pcp xs y0 y1 y2 y3 y4 y5 y6 y7 y8 z0 z1 z2 z3 w' b1 h.ra (by have := h.sz; omega) (by omega)
  have C22 := fun (w' : World) (h : FvP w b1 (.cells #[.int .i64 pr, .int .i64 pc, .slice PA NP pcp] 32 (0, 0)) (.cells #[.int .i64 y0, .int .i64 y1, .int .i64 y2, .int .i64 y3, .int .i64 y4, .int .i64 y5, .int .i64 y6, .int .i64 y7, .int .i64 y8] 34 (0, 0)) (.cells #[.int .i64 z0, .int .i64 z1, .int .i64 z2, .int .i64 z3] 36 (0, 0)) PA NP xs w') => sSampleFive_any pr pc PA NP pcp xs y0 y1 y2 y3 y4 y5 y6 y7 y8 z0 z1 z2 z3 w' b1 h.ra (by have := h.sz; omega) (by omega)
  have gle2 := SampleFive_le pr pc xs y0 y1 y2 y3 y4 y5 y6 y7 y8 z0 z1 z2 z3
  obtain ⟨K2, hK2⟩ : ∃ K, SampleFive_K pr pc xs y0 y1 y2 y3 y4 y5 y6 y7 y8 z0 z1 z2 z3 = K := ⟨_, rfl⟩
  obtain ⟨G2, hG2⟩ : ∃ G, SampleFive_L pr pc xs y0 y1 y2 y3 y4 y5 y6 y7 y8 z0 z1 z2 z3 = G := ⟨_, rfl⟩
  rw [hG2] at gle2
  rw [hK2, hG2] at C12 C22
  generalize gI K2 z0 = GR2 at C12 C22
  generalize gI K2 z1 = GC2 at C12 C22
  have HC12 := Lib.hid C12
  have HC22 := Lib.hid C22
  obtain ⟨N2, hN2⟩ : ∃ N, G2.length = N := ⟨_, rfl⟩
  rw [hN2] at gle2
  have HN2 := Lib.hid hN2
  have HK2 := Lib.hid hK2
  have hkk2 : (K2 != K2) = false := by simp
  clear C12 C22 hK2 hG2 hN2
  obtain ⟨p0, p1, p2, -⟩ := blk3 HP2.out.k1
  obtain ⟨n0, n1, n2, n3, n4, n5, n6, n7, n8, -⟩ := blk9 HP2.out.k2
  obtain ⟨s0, s1, s2, s3, -⟩ := blk4 HP2.out.k3
  have hzz := HP2.out.sz
  have hz1 : b1 < w2.heap.size := by omega
  have hz2 : b1 + 1 < w2.heap.size := by omega
  have hz3 : b1 + 1 + 1 < w2.heap.size := by omega
  go_wp2_with fail
  go_at_call 26
  with_reducible refine (HC12.out _ HP2.out).mono ?_
  rintro e3 w3 ⟨v3, rfl, ho3, hb3⟩
  obtain ⟨A3, c3, rfl, -⟩ := ho3.shape
  rw [HN2.out] at ho3 ⊢
  have HR3 := Lib.hid (ho3.riS HN2.out)
  have HP3 := Lib.hid (HP2.out.below hb3)
  clear hb3 ho3
  clear p0 p1 p2 n0 n1 n2 n3 n4 n5 n6 n7 n8 s0 s1 s2 s3 hz1 hz2 hz3 hzz
  obtain ⟨p0, p1, p2, -⟩ := blk3 HP3.out.k1
  obtain ⟨n0, n1, n2, n3, n4, n5, n6, n7, n8, -⟩ := blk9 HP3.out.k2
  obtain ⟨s0, s1, s2, s3, -⟩ := blk4 HP3.out.k3
  have hzz := HP3.out.sz
  have hz1 : b1 < w3.heap.size := by omega
  have hz2 : b1 + 1 < w3.heap.size := by omega
  have hz3 : b1 + 1 + 1 < w3.heap.size := by omega
  go_wp2_with fail
  go_at_call 25
  with_reducible refine (HC22.out _ (HP3.out.alloc _)).mono ?_
  rintro e4 w4 ⟨v4, rfl, ho4, hb4⟩
  obtain ⟨A4, c4, rfl, -⟩ := ho4.shape
  rw [HN2.out] at ho4 ⊢
  have HR4 := Lib.hid (ho4.riS HN2.out)
  have HB4 := Lib.hid (blk_below (heap_alloc_new w3 (.cells #[.int .i64 GR2, .int .i64 GC2, .slice A3 N2 c3] 41)) hb4 (by simp))
  have HQ4 := Lib.hid ((HR3.out.below ((Below.refl w3.heap.size w3).alloc (Nat.le_refl _) (.cells #[.int .i64 GR2, .int .i64 GC2, .slice A3 N2 c3] 41))).below (hb4.mono (by simp)))
  have HP4 := Lib.hid ((HP3.out.alloc (.cells #[.int .i64 GR2, .int .i64 GC2, .slice A3 N2 c3] 41)).below hb4)
  obtain ⟨bb4, hbb4⟩ : ∃ x, w3.heap.size = x := ⟨_, rfl⟩
  rw [hbb4] at HB4 HQ4 ⊢
  have hzb4 : bb4 < w4.heap.size := lt_of_block HB4.out
  clear hb4 ho4 hbb4 HR3
  clear p0 p1 p2 n0 n1 n2 n3 n4 n5 n6 n7 n8 s0 s1 s2 s3 hz1 hz2 hz3 hzz
  obtain ⟨i0, i1, i2, -⟩ := blk3 HB4.out
  have HLG4 := Lib.hid (fun (w' : World) (hb : Below w4.heap.size w4 w') => likeGrid_same GR2 GC2 A3 A4 N2 c3 c4 G2 w' bb4 w4.heap.size (HQ4.out.below (hb.mono (Nat.le_of_lt hzb4))) (HR4.out.below hb) (by have := hb.size; omega) hb.size (by omega))
  go_wp2_with fail
  go_at_call 34
  with_reducible refine (HLG4.out _ ((Below.refl _ _).alloc (Nat.le_refl _) _)).mono ?_
  rintro e5 w5 ⟨rfl, hb5⟩
  have hd5 : Below w4.heap.size w4 w5 := Below.trans ((Below.refl _ _).alloc (Nat.le_refl _) _) (hb5.mono (by simp))
  have HP5 := Lib.hid (HP4.out.below hd5)
  clear hb5 hd5 i0 i1 i2 HLG4 HQ4 HR4 HB4 hzb4

  go_wp2_with fail
  go_at_call 41
  with_reducible refine (HD2.out _ HP5.out.bl).mono ?_
  rintro e6 w6 ⟨u6, rfl, ⟨pr', pc', pv6, xs', y0', y1', y2', y3', y4', y5', y6', y7', y8', z0', z1', z2', z3', ln, rfl, hle6, ho6⟩, hb6⟩
  have HB6 := Lib.hid (HP5.out.bl.trans (hb6.mono HP5.out.bl.size))
  obtain ⟨PA', pcp', rfl, -⟩ := ho6.shape
  obtain ⟨NP', hN6⟩ : ∃ L, xs'.length = L := ⟨_, rfl⟩
  rw [hN6] at ho6 hle6 ⊢
  have HRI6 := Lib.hid (ho6.riS hN6)
  have HP6 := Lib.hid (HP5.out.below hb6)
  clear hb6 ho6 hN6

  go_upto_region 9 with fail
  obtain ⟨b2, hb2⟩ : ∃ x, w6.heap.size = x := ⟨_, rfl⟩
  refine gen_world (P := fun W' => Code.wp _ _ _ _ W') (Q := fun W' => FvP w b1 (.cells #[.int .i64 pr, .int .i64 pc, .slice PA NP pcp] 32 (0, 0)) (.cells #[.int .i64 y0, .int .i64 y1, .int .i64 y2, .int .i64 y3, .int .i64 y4, .int .i64 y5, .int .i64 y6, .int .i64 y7, .int .i64 y8] 34 (0, 0)) (.cells #[.int .i64 z0, .int .i64 z1, .int .i64 z2, .int .i64 z3] 36 (0, 0)) PA NP xs W' ∧ FvP w b2 (.cells #[.int .i64 pr', .int .i64 pc', .slice PA' NP' pcp'] 32 (0, 0)) (.cells #[.int .i64 y0', .int .i64 y1', .int .i64 y2', .int .i64 y3', .int .i64 y4', .int .i64 y5', .int .i64 y6', .int .i64 y7', .int .i64 y8'] 34 (0, 0)) (.cells #[.int .i64 z0', .int .i64 z1', .int .i64 z2', .int .i64 z3'] 36 (0, 0)) PA' NP' xs' W') ?_ ?_
  · exact ⟨((HP6.out.alloc _).alloc _).alloc _, FvP.new HB6.out HRI6.out hb2⟩
  rintro w7 ⟨hp7, hq7⟩
  have HP7 := Lib.hid hp7
  have HQ7 := Lib.hid hq7
  (first | rw [hb2] | skip)
  clear hp7 hq7 HRI6 HB6 hb2

  have C17 := fun (w' : World) (h : FvP w b2 (.cells #[.int .i64 pr', .int .i64 pc', .slice PA' NP' pcp'] 32 (0, 0)) (.cells #[.int .i64 y0', .int .i64 y1', .int .i64 y2', .int .i64 y3', .int .i64 y4', .int .i64 y5', .int .i64 y6', .int .i64 y7', .int .i64 y8'] 34 (0, 0)) (.cells #[.int .i64 z0', .int .i64 z1', .int .i64 z2', .int .i64 z3'] 36 (0, 0)) PA' NP' xs' w') => SampleStack_any pr' pc' PA' NP' pcp' xs' y0' y1' y2' y3' y4' y5' y6' y7' y8' z0' z1' z2' z3' ln w' b2 h.ra (by have := h.sz; omega) (by omega)
  have C27 := fun (w' : World) (h : FvP w b2 (.cells #[.int .i64 pr', .int .i64 pc', .slice PA' NP' pcp'] 32 (0, 0)) (.cells #[.int .i64 y0', .int .i64 y1', .int .i64 y2', .int .i64 y3', .int .i64 y4', .int .i64 y5', .int .i64 y6', .int .i64 y7', .int .i64 y8'] 34 (0, 0)) (.cells #[.int .i64 z0', .int .i64 z1', .int .i64 z2', .int .i64 z3'] 36 (0, 0)) PA' NP' xs' w') => sSampleStack_any pr' pc' PA' NP' pcp' xs' y0' y1' y2' y3' y4' y5' y6' y7' y8' z0' z1' z2' z3' ln w' b2 h.ra (by have := h.sz; omega) (by omega)
  have gle7 := SampleStack_le pr' pc' xs' y0' y1' y2' y3' y4' y5' y6' y7' y8' z0' z1' z2' z3' ln
  obtain ⟨K7, hK7⟩ : ∃ K, SampleStack_K pr' pc' xs' y0' y1' y2' y3' y4' y5' y6' y7' y8' z0' z1' z2' z3' ln = K := ⟨_, rfl⟩
  obtain ⟨G7, hG7⟩ : ∃ G, SampleStack_L pr' pc' xs' y0' y1' y2' y3' y4' y5' y6' y7' y8' z0' z1' z2' z3' ln = G := ⟨_, rfl⟩
  rw [hG7] at gle7
  rw [hK7, hG7] at C17 C27
  generalize gI K7 z0' = GR7 at C17 C27
  generalize gI K7 z1' = GC7 at C17 C27
  have HC17 := Lib.hid C17
  have HC27 := Lib.hid C27
  obtain ⟨N7, hN7⟩ : ∃ N, G7.length = N := ⟨_, rfl⟩
  rw [hN7] at gle7
  have HN7 := Lib.hid hN7
  have HK7 := Lib.hid hK7
  have hkk7 : (K7 != K7) = false := by simp
  clear C17 C27 hK7 hG7 hN7
  obtain ⟨p0, p1, p2, -⟩ := blk3 HQ7.out.k1
  obtain ⟨n0, n1, n2, n3, n4, n5, n6, n7, n8, -⟩ := blk9 HQ7.out.k2
  obtain ⟨s0, s1, s2, s3, -⟩ := blk4 HQ7.out.k3
  have hzz := HQ7.out.sz
  have hz1 : b2 < w7.heap.size := by omega
  have hz2 : b2 + 1 < w7.heap.size := by omega
  have hz3 : b2 + 1 + 1 < w7.heap.size := by omega
  go_wp2_with fail
  go_at_call 24
  with_reducible refine (HC17.out _ HQ7.out).mono ?_
  rintro e8 w8 ⟨v8, rfl, ho8, hb8⟩
  obtain ⟨A8, c8, rfl, -⟩ := ho8.shape
  rw [HN7.out] at ho8 ⊢
  have HR8 := Lib.hid (ho8.riS HN7.out)
  have HP8 := Lib.hid (HP7.out.below hb8)
  have HQ8 := Lib.hid (HQ7.out.below hb8)
  clear hb8 ho8
  clear p0 p1 p2 n0 n1 n2 n3 n4 n5 n6 n7 n8 s0 s1 s2 s3 hz1 hz2 hz3 hzz
  obtain ⟨p0, p1, p2, -⟩ := blk3 HQ8.out.k1
  obtain ⟨n0, n1, n2, n3, n4, n5, n6, n7, n8, -⟩ := blk9 HQ8.out.k2
  obtain ⟨s0, s1, s2, s3, -⟩ := blk4 HQ8.out.k3
  have hzz := HQ8.out.sz
  have hz1 : b2 < w8.heap.size := by omega
  have hz2 : b2 + 1 < w8.heap.size := by omega
  have hz3 : b2 + 1 + 1 < w8.heap.size := by omega
  go_wp2_with fail
  go_at_call 23
  with_reducible refine (HC27.out _ (HQ8.out.alloc _)).mono ?_
  rintro e9 w9 ⟨v9, rfl, ho9, hb9⟩
  obtain ⟨A9, c9, rfl, -⟩ := ho9.shape
  rw [HN7.out] at ho9 ⊢
  have HR9 := Lib.hid (ho9.riS HN7.out)
  have HB9 := Lib.hid (blk_below (heap_alloc_new w8 (.cells #[.int .i64 GR7, .int .i64 GC7, .slice A8 N7 c8] 41)) hb9 (by simp))
  have HW9 := Lib.hid ((HR8.out.below ((Below.refl w8.heap.size w8).alloc (Nat.le_refl _) (.cells #[.int .i64 GR7, .int .i64 GC7, .slice A8 N7 c8] 41))).below (hb9.mono (by simp)))
  have HP9 := Lib.hid ((HP8.out.alloc (.cells #[.int .i64 GR7, .int .i64 GC7, .slice A8 N7 c8] 41)).below hb9)
  have HQ9 := Lib.hid ((HQ8.out.alloc (.cells #[.int .i64 GR7, .int .i64 GC7, .slice A8 N7 c8] 41)).below hb9)
  obtain ⟨bb9, hbb9⟩ : ∃ x, w8.heap.size = x := ⟨_, rfl⟩
  rw [hbb9] at HB9 HW9 ⊢
  have hzb9 : bb9 < w9.heap.size := lt_of_block HB9.out
  clear hb9 ho9 hbb9 HR8
  clear p0 p1 p2 n0 n1 n2 n3 n4 n5 n6 n7 n8 s0 s1 s2 s3 hz1 hz2 hz3 hzz
  obtain ⟨i0, i1, i2, -⟩ := blk3 HB9.out
  have HLG9 := Lib.hid (fun (w' : World) (hb : Below w9.heap.size w9 w') => likeGrid_same GR7 GC7 A8 A9 N7 c8 c9 G7 w' bb9 w9.heap.size (HW9.out.below (hb.mono (Nat.le_of_lt hzb9))) (HR9.out.below hb) (by have := hb.size; omega) hb.size (by omega))
  go_wp2_with fail
  go_at_call 34
  with_reducible refine (HLG9.out _ ((Below.refl _ _).alloc (Nat.le_refl _) _)).mono ?_
  rintro e10 w10 ⟨rfl, hb10⟩
  have hd10 : Below w9.heap.size w9 w10 := Below.trans ((Below.refl _ _).alloc (Nat.le_refl _) _) (hb10.mono (by simp))
  have HP10 := Lib.hid (HP9.out.below hd10)
  have HQ10 := Lib.hid (HQ9.out.below hd10)
  clear hb10 hd10 i0 i1 i2 HLG9 HW9 HR9 HB9 hzb9

  by_cases hK : K2 = 0
  rotate_left
  · have hK' : (K2 != 0) = true := by simpa using hK
    clear hK
    go_wp2_with fail
    go_ret
    exact ⟨rfl, HP10.out.bl⟩
  have hK' : (K2 != 0) = false := by simpa using hK
  obtain ⟨a1, a2, a3⟩ := fv_good (HK2.out.trans hK)
  have D1 := fun (w' : World) (h : FvP w b1 (.cells #[.int .i64 pr, .int .i64 pc, .slice PA NP pcp] 32 (0, 0)) (.cells #[.int .i64 y0, .int .i64 y1, .int .i64 y2, .int .i64 y3, .int .i64 y4, .int .i64 y5, .int .i64 y6, .int .i64 y7, .int .i64 y8] 34 (0, 0)) (.cells #[.int .i64 z0, .int .i64 z1, .int .i64 z2, .int .i64 z3] 36 (0, 0)) PA NP xs w') => SampleStack_any pr pc PA NP pcp xs y0 y1 y2 y3 y4 y5 y6 y7 y8 z0 z1 z2 z3 1 w' b1 h.ra (by have := h.sz; omega) (by omega)
  have D2 := fun (w' : World) (h : FvP w b1 (.cells #[.int .i64 pr, .int .i64 pc, .slice PA NP pcp] 32 (0, 0)) (.cells #[.int .i64 y0, .int .i64 y1, .int .i64 y2, .int .i64 y3, .int .i64 y4, .int .i64 y5, .int .i64 y6, .int .i64 y7, .int .i64 y8] 34 (0, 0)) (.cells #[.int .i64 z0, .int .i64 z1, .int .i64 z2, .int .i64 z3] 36 (0, 0)) PA NP xs w') => SampleMap_any pr pc PA NP pcp xs y0 y1 y2 y3 y4 y5 y6 y7 y8 z0 z1 z2 z3 w' b1 h.ra (by have := h.sz; omega) (by omega)
  have dle := SampleMap_le pr pc xs y0 y1 y2 y3 y4 y5 y6 y7 y8 z0 z1 z2 z3
  rw [a1, a3] at D1
  rw [a2] at D2
  rw [gI_0, gI_0] at D1 D2
  generalize SampleMap_L pr pc xs y0 y1 y2 y3 y4 y5 y6 y7 y8 z0 z1 z2 z3 = E at D1 D2 dle
  have HD1' := Lib.hid D1
  have HD2' := Lib.hid D2
  obtain ⟨M, hM⟩ : ∃ N, E.length = N := ⟨_, rfl⟩
  rw [hM] at dle
  have HM := Lib.hid hM
  subst hK
  clear D1 D2 a1 a2 a3 hM

  obtain ⟨p0, p1, p2, -⟩ := blk3 HP10.out.k1
  obtain ⟨n0, n1, n2, n3, n4, n5, n6, n7, n8, -⟩ := blk9 HP10.out.k2
  obtain ⟨s0, s1, s2, s3, -⟩ := blk4 HP10.out.k3
  have hzz := HP10.out.sz
  have hz1 : b1 < w10.heap.size := by omega
  have hz2 : b1 + 1 < w10.heap.size := by omega
  have hz3 : b1 + 1 + 1 < w10.heap.size := by omega
  go_wp2_with fail
  go_at_call 24
  with_reducible refine (HD1'.out _ HP10.out).mono ?_
  rintro e11 w11 ⟨v11, rfl, ho11, hb11⟩
  obtain ⟨A11, c11, rfl, -⟩ := ho11.shape
  rw [HM.out] at ho11 ⊢
  have HR11 := Lib.hid (ho11.riS HM.out)
  have HP11 := Lib.hid (HP10.out.below hb11)
  clear hb11 ho11
  clear p0 p1 p2 n0 n1 n2 n3 n4 n5 n6 n7 n8 s0 s1 s2 s3 hz1 hz2 hz3 hzz
  obtain ⟨p0, p1, p2, -⟩ := blk3 HP11.out.k1
  obtain ⟨n0, n1, n2, n3, n4, n5, n6, n7, n8, -⟩ := blk9 HP11.out.k2
  obtain ⟨s0, s1, s2, s3, -⟩ := blk4 HP11.out.k3
  have hzz := HP11.out.sz
  have hz1 : b1 < w11.heap.size := by omega
  have hz2 : b1 + 1 < w11.heap.size := by omega
  have hz3 : b1 + 1 + 1 < w11.heap.size := by omega
  go_wp2_with fail
  go_at_call 18
  with_reducible refine (HD2'.out _ (HP11.out.alloc _)).mono ?_
  rintro e12 w12 ⟨v12, rfl, ho12, hb12⟩
  obtain ⟨A12, c12, rfl, -⟩ := ho12.shape
  rw [HM.out] at ho12 ⊢
  have HR12 := Lib.hid (ho12.riS HM.out)
  have HB12 := Lib.hid (blk_below (heap_alloc_new w11 (.cells #[.int .i64 z0, .int .i64 z1, .slice A11 M c11] 41)) hb12 (by simp))
  have HX12 := Lib.hid ((HR11.out.below ((Below.refl w11.heap.size w11).alloc (Nat.le_refl _) (.cells #[.int .i64 z0, .int .i64 z1, .slice A11 M c11] 41))).below (hb12.mono (by simp)))
  have HP12 := Lib.hid ((HP11.out.alloc (.cells #[.int .i64 z0, .int .i64 z1, .slice A11 M c11] 41)).below hb12)
  obtain ⟨bb, hbb⟩ : ∃ x, w11.heap.size = x := ⟨_, rfl⟩
  rw [hbb] at HB12 HX12 ⊢
  have hzb : bb < w12.heap.size := lt_of_block HB12.out
  clear hb12 ho12 hbb HR11
  clear p0 p1 p2 n0 n1 n2 n3 n4 n5 n6 n7 n8 s0 s1 s2 s3 hz1 hz2 hz3 hzz
  obtain ⟨i0, i1, i2, -⟩ := blk3 HB12.out
  have HLG := Lib.hid (fun (w' : World) (hb : Below w12.heap.size w12 w') => likeGrid_same z0 z1 A11 A12 M c11 c12 E w' bb w12.heap.size (HX12.out.below (hb.mono (Nat.le_of_lt hzb))) (HR12.out.below hb) (by have := hb.size; omega) hb.size (by omega))
  go_wp2_with fail
  go_at_call 34
  with_reducible refine (HLG.out _ ((Below.refl _ _).alloc (Nat.le_refl _) _)).mono ?_
  rintro e13 w13 ⟨rfl, hb13⟩
  have HP13 := Lib.hid ((HP12.out.alloc _).below hb13)
  clear hb13
  go_wp2_with fail
  go_ret
  exact ⟨rfl, HP13.out.bl⟩

set_option maxRecDepth 100000 in
theorem lifted_FnVotes (os : Os) (started : os.Started) (H : Type) (enc : TypeId × Value → H) :
    ReturnsInHanded {} Try.checked os 9 .any (Rows.fnVotesSpec.pre6 enc Try.prog Try.f9 Rows.fnVotesRow.domain false) (Rows.fnVotesSpec.post enc Try.prog Try.f9 false true false false) := by
  refine law_lifted (C := Try.checked) (tb := 4) own started (by kernel_rfl) Try.func9
    (ChangeSpec.witness6 (enc := enc) (C := Try.checked) false ⟨#[], #[.slice none 0 0], []⟩ 8 (by kernel_rfl) (by kernel_rfl) (by kernel_rfl) (by kernel_rfl))
    laidOut (by kernel_rfl) rfl rfl Try.underlying4 ?_ ?_
  · intro ds hd
    match ds, hd with
    | [e0], _ => rfl
  · intro W base args ds p hval hA hlt hsz
    have hval1 : ∀ (j : Nat) t v, Try.f9.params[j]? = some t → args[j]? = some v → Value.okWide Try.prog W .any base t v := hval
    have hA1 : DataW.TrodAll enc Try.prog W 0 (fun _ => true) true Try.f9.params.toList args.toList ds p := hA
    have hsz1 : (DataW.weightsEach Try.prog Try.f9.params.toList ds).all (· ≤ reachBytes) = true := hsz
    rw [Try.params9] at hval1 hA1 hsz1
    clear hval hA hsz
    obtain ⟨v0, d0, rfl, rfl, h0⟩ := trodAll_one hA1
    obtain ⟨A, n, c, bs, rfl, hr, _⟩ := arg_bytes Try.underlying50 Try.underlying5 (by kernel_rfl) (hval1 0 50 v0 rfl rfl) h0 (fun x hx => hlt x (by simp [hx]))
    exact lawFnVotes A n c bs W hr
theorem holds_FnVotes : Rows.FnVotesSaid :=
  OpenClaim.holds_of_wide 9 Try.f9 rfl rfl rfl rfl rfl rfl rfl ⟨rfl, rfl, rfl, rfl, rfl⟩ rfl rfl rfl rfl rfl (by kernel_rfl) Try.func9 (by kernel_rfl)
    (of_decide_eq_true (by kernel_rfl)) (by unfold Func.isWrapper; first | (rw [if_pos (by decide +kernel)]; kernel_rfl) | (rw [if_neg (by decide +kernel)]; exact ⟨rfl, rfl⟩))
    (fun os started H enc _ => lifted_FnVotes os started H enc)

end Go.Proofs.Ytflpllmbpfdnjaa
