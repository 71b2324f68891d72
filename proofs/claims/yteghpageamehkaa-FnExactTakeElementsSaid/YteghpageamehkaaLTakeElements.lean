/-
  The row FnExactTakeElements: for every grid and width the program's TakeElements returns what the reference's returns, in memory of its own, and leaves the grid as it was; no condition.
-/
import Derived.Test.YteghpageamehkaaTkP
import Derived.Test.YteghpageamehkaaC15S
namespace Go.Proofs.Yteghpageamehkaa
set_option linter.unusedSimpArgs false
open Go.ChangeShapes Go.WideShapes Go.ChangeAt Go.RowKit Go.Deep

set_option maxRecDepth 20000 in
set_option maxHeartbeats 4000000 in
theorem lawTakeElements (r c : Int) (A : Option Addr) (n cp : Nat) (xs : List Int) (v : Int) (w : World) (hr : RI w w.heap.size A n xs) (hn2 : n ≤ 9223372036854775807) :
    Calls Try.prog 6 #[.agg #[.int .i64 r, .int .i64 c, .slice A n cp], .int .i64 v] w fun e' w' => e' = .returned (.bool true) ∧ Below w.heap.size w w' := by
  have HLN := Lib.hid hr.len
  have HR := Lib.hid hr
  clear hr
  by_cases hbig : n ≤ 1048576
  · have s1 := fun (A : Option Addr) (cp : Nat) (w : World) (B : Nat) (hr : RI w B A n xs) (hB : B ≤ w.heap.size) => sTakeElements_any r c A n cp xs v w B hr hB (by omega)
    have s2 := fun (A : Option Addr) (cp : Nat) (w : World) (B : Nat) (hr : RI w B A n xs) (hB : B ≤ w.heap.size) => TakeElements_any r c A n cp xs v w B hr hB (by omega)
    have hle := te_le r c xs v
    generalize teE r c xs v = es at s1 s2 hle
    generalize teU r c xs v = us at s1 s2 hle
    generalize teC r c xs v = C at s1 s2
    obtain ⟨L1, hL1⟩ : ∃ L, es.length = L := ⟨_, rfl⟩
    obtain ⟨L2, hL2⟩ : ∃ L, us.length = L := ⟨_, rfl⟩
    rw [hL1, hL2] at hle
    obtain ⟨hle1, hle2⟩ := hle
    have HL1 := Lib.hid hL1
    have HL2 := Lib.hid hL2
    have S1 := Lib.hid s1
    have S2 := Lib.hid s2
    clear s1 s2 hL1 hL2
    have h1 : (C != C) = false := by simp
    have HT := Lib.hid (fun w' (hb : Below w.heap.size w w') => toGrid_any r c A n cp xs w' w.heap.size (HR.out.below hb) hb.size (by omega))
    go_enter Try.func6, Try.ntmps6
    go_wp2_with (go_at_call 33; go_call (szGrid_ok _ _ _ _ _ 1048576 _ hbig (by omega)) as e0 w0 ⟨rfl, hb0⟩; obtain ⟨hc0, hf0⟩ := bcell hb0; have hB0 : Below w.heap.size w w0 := (below_then (by first | (go_grown; done) | (repeat (first | (with_reducible assumption) | (with_reducible exact Below.refl _ _) | (with_reducible refine below_drewN' ?_ _) | (with_reducible refine Below.drew ?_) | ((with_reducible refine Below.alloc ?_ ?_ _); rotate_left; focus (first | (simp; done) | (simp; omega) | omega)) | ((with_reducible refine Below.setCell ?_ ?_ _); rotate_left; focus (first | (simp; done) | (simp; omega) | omega))))) (by first | omega | (simp; done) | (simp; omega)) hb0); have hz0a : w.heap.size < w0.heap.size := (by have := hb0.size; first | omega | (simp at this; omega)))
    have HT20 := Lib.hid (blk_below (heap_alloc_new w (.cells #[.int .i64 r, .int .i64 c, .slice A n cp] 54)) hb0 (by simp))
    obtain ⟨t0, t1, t2, -⟩ := blk3 HT20.out
    clear hc0 hf0
    (go_at_call 35; go_call (HT.out _ hB0) as e1 w1 ⟨v1, rfl, ho1, hb1⟩; obtain ⟨hc1, hf1⟩ := bcell hb1; have hB1 : Below w.heap.size w w1 := (below_then (by first | (go_grown; done) | (repeat (first | (with_reducible assumption) | (with_reducible exact Below.refl _ _) | (with_reducible refine below_drewN' ?_ _) | (with_reducible refine Below.drew ?_) | ((with_reducible refine Below.alloc ?_ ?_ _); rotate_left; focus (first | (simp; done) | (simp; omega) | omega)) | ((with_reducible refine Below.setCell ?_ ?_ _); rotate_left; focus (first | (simp; done) | (simp; omega) | omega))))) (by first | omega | (simp; done) | (simp; omega)) hb1); have hz1a : w.heap.size < w1.heap.size := (by have := hb1.size; first | omega | (simp at this; omega)))
    obtain ⟨A1, c1, rfl, hr1⟩ := ho1.shape
    rw [HLN.out] at hr1 ⊢
    have HR1 := Lib.hid hr1
    have HT21 := Lib.hid (blk_below HT20.out hb1 hz0a)
    clear ho1 hr1 hc1 hf1 t0 t1 t2
    go_wp2_with fail
    (go_at_call 34; go_call (S1.out _ _ _ _ HR1.out (Nat.le_refl _)) as e2 w2 ⟨ua, ub, rfl, hT2, hb2⟩; obtain ⟨hc2, hf2⟩ := bcell hb2; have hB2 : Below w.heap.size w w2 := (below_then (by first | (go_grown; done) | (repeat (first | (with_reducible assumption) | (with_reducible exact Below.refl _ _) | (with_reducible refine below_drewN' ?_ _) | (with_reducible refine Below.drew ?_) | ((with_reducible refine Below.alloc ?_ ?_ _); rotate_left; focus (first | (simp; done) | (simp; omega) | omega)) | ((with_reducible refine Below.setCell ?_ ?_ _); rotate_left; focus (first | (simp; done) | (simp; omega) | omega))))) (by first | omega | (simp; done) | (simp; omega)) hb2); have hz2a : w.heap.size < w2.heap.size := (by have := hb2.size; first | omega | (simp at this; omega)))
    obtain ⟨Aa, ca, rfl, hra⟩ := hT2.1.shape
    obtain ⟨Ab, cb, rfl, hrb⟩ := hT2.2.1.shape
    rw [HL1.out] at hra ⊢
    rw [HL2.out] at hrb ⊢
    have HRa := Lib.hid hra
    have HRb := Lib.hid hrb
    have HT22 := Lib.hid (blk_below HT21.out hb2 hz1a)
    clear hT2 hra hrb hc2 hf2
    obtain ⟨t0, t1, t2, -⟩ := blk3 HT22.out
    go_wp2_with fail
    (go_at_call 35; go_call (HT.out _ (by (repeat (first | (with_reducible assumption) | (with_reducible exact Below.refl _ _) | (with_reducible refine below_drewN' ?_ _) | (with_reducible refine Below.drew ?_) | ((with_reducible refine Below.alloc ?_ ?_ _); rotate_left; focus (first | (simp; done) | (simp; omega) | omega)) | ((with_reducible refine Below.setCell ?_ ?_ _); rotate_left; focus (first | (simp; done) | (simp; omega) | omega)))))) as e3 w3 ⟨v3, rfl, ho3, hb3⟩; obtain ⟨hc3, hf3⟩ := bcell hb3; have hB3 : Below w.heap.size w w3 := (below_then (by first | (go_grown; done) | (repeat (first | (with_reducible assumption) | (with_reducible exact Below.refl _ _) | (with_reducible refine below_drewN' ?_ _) | (with_reducible refine Below.drew ?_) | ((with_reducible refine Below.alloc ?_ ?_ _); rotate_left; focus (first | (simp; done) | (simp; omega) | omega)) | ((with_reducible refine Below.setCell ?_ ?_ _); rotate_left; focus (first | (simp; done) | (simp; omega) | omega))))) (by first | omega | (simp; done) | (simp; omega)) hb3); have hz3a : w.heap.size < w3.heap.size := (by have := hb3.size; first | omega | (simp at this; omega)))
    obtain ⟨A3, c3, rfl, hr3⟩ := ho3.shape
    rw [HLN.out] at ho3 hr3 ⊢
    have HR3 := Lib.hid hr3
    have HO3 := Lib.hid ho3
    have HT23 := Lib.hid (blk_below HT22.out hb3 hz2a)
    have HRa3 := Lib.hid (HRa.out.below hb3)
    have HRb3 := Lib.hid (HRb.out.below hb3)
    have hs3 := hb3.size
    clear ho3 hr3 hc3 hf3 t0 t1 t2
    go_wp2_with fail
    have HB3 := Lib.hid hB3
    go_at_call 36
    with_reducible refine (S2.out _ _ _ _ (HR3.out.alloc (Nat.le_refl _) _) (by simp)).mono ?_
    rintro e4 w4 ⟨va, vb, rfl, hT4, hb4⟩
    obtain ⟨A4, c4, rfl, -⟩ := hT4.1.shape
    obtain ⟨A5, c5, rfl, -⟩ := hT4.2.1.shape
    rw [HL1.out, HL2.out] at hT4 ⊢
    have HP4 := Lib.hid (show TkP w w3.heap.size w2.heap.size (w3.heap.size + 1) _ _ _ es _ us Aa Ab L1 L2 es us w4 from by
      have hs4 := hb4.size
      simp only [World.size_alloc] at hs4 hT4
      exact ⟨⟨hz2a, hs3, Nat.lt_succ_self _, hs4⟩, (HB3.out.alloc (by omega) _).trans (hb4.mono (by simp; omega)), blk_below (blk_alloc HT23.out hz3a) hb4 (by simp; omega), blk_below (heap_alloc_new w3 (.cells #[.int .i64 r, .int .i64 c, .slice A3 n c3] 37)) hb4 (by simp), hT4, (HRa3.out.alloc hs3 _).below (hb4.mono (by simp; omega)), (HRb3.out.alloc hs3 _).below (hb4.mono (by simp; omega))⟩)
    have HO34 := Lib.hid ((HO3.out.keep ((Below.refl _ _).alloc (Nat.le_refl _) (.cells #[.int .i64 r, .int .i64 c, .slice A3 n c3] 37))).keep hb4)
    have HOL3 := Lib.hid (World.ownsRow.lt HO3.out)
    clear hT4 hb4 hB0 hB1 hB2 hB3 hb0 hb1 hb2 hb3
    go_wp2_with fail
    go_at_call 22
    with_reducible refine (eqI_same A4 Aa L1 c4 ca es _ _ _ (HP4.out.own1.ri HL1.out) HP4.out.ra (by omega)).mono ?_
    rintro e5 w5 ⟨rfl, hb5⟩
    have HP5 := Lib.hid (HP4.out.below hb5)
    have HO35 := Lib.hid (HO34.out.keep hb5)
    clear hb5
    go_wp2_with fail
    go_at_call 22
    with_reducible refine (eqI_same A5 Ab L2 c5 cb us _ _ _ (HP5.out.own2.ri HL2.out) HP5.out.rb (by omega)).mono ?_
    rintro e6 w6 ⟨rfl, hb6⟩
    have HP6 := Lib.hid (HP5.out.below hb6)
    have HO36 := Lib.hid (HO35.out.keep hb6)
    clear hb6
    have hz6 : w.heap.size < w6.heap.size := by have := HP6.out.sz; omega
    have hz6' : w3.heap.size < w6.heap.size := by have := HP6.out.sz; omega
    have HT6 := Lib.hid (fun w' (hb : Below w6.heap.size w6 w') => toGrid_any r c A n cp xs w' w.heap.size (HR.out.below (HP6.out.bw.trans (hb.mono (Nat.le_of_lt hz6)))) (Nat.le_trans (Nat.le_of_lt hz6) hb.size) (by omega))
    have HR36 := Lib.hid (HO36.out.ri HLN.out)
    obtain ⟨k0, k1, k2, -⟩ := blk3 HP6.out.k1
    obtain ⟨g0, g1, g2, -⟩ := blk3 HP6.out.k0
    go_wp2_with fail
    go_region_held3 (fun w' => (w'.cell? ⟨w3.heap.size, 0, none⟩ = some (.int .i64 r) ∧ w'.cell? ⟨w3.heap.size, 1, none⟩ = some (.int .i64 c) ∧ w'.cell? ⟨w3.heap.size, 2, none⟩ = some (.slice A3 n c3)) ∧
        w'.cell? ⟨w.heap.size, 0, none⟩ = some (.int .i64 r) ∧ w'.cell? ⟨w.heap.size, 1, none⟩ = some (.int .i64 c) ∧ w'.cell? ⟨w.heap.size, 2, none⟩ = some (.slice A n cp))
      (first | (exact ⟨⟨q0, q1, q2⟩, p0, p1, p2⟩) | (exact ⟨⟨k0, k1, k2⟩, g0, g1, g2⟩) | go_keep)
      (first
        | (go_at_call 35; with_reducible refine (HT6.out _ (by (repeat (first | (with_reducible assumption) | (with_reducible exact Below.refl _ _) | (with_reducible refine below_drewN' ?_ _) | (with_reducible refine Below.drew ?_) | ((with_reducible refine Below.alloc ?_ ?_ _); rotate_left; focus (first | (simp; done) | (simp; omega) | omega)) | ((with_reducible refine Below.setCell ?_ ?_ _); rotate_left; focus (first | (simp; done) | (simp; omega) | omega)))))).mono ?_; rintro e7 w7 ⟨v7, rfl, ho7, hb7⟩; have hD7 : Below w6.heap.size w6 w7 := below_then (by (repeat (first | (with_reducible assumption) | (with_reducible exact Below.refl _ _) | (with_reducible refine below_drewN' ?_ _) | (with_reducible refine Below.drew ?_) | ((with_reducible refine Below.alloc ?_ ?_ _); rotate_left; focus (first | (simp; done) | (simp; omega) | omega)) | ((with_reducible refine Below.setCell ?_ ?_ _); rotate_left; focus (first | (simp; done) | (simp; omega) | omega))))) (by first | omega | (simp; done) | (simp; omega)) hb7; have hsz7 := hD7.size; obtain ⟨q0, q1, q2, -⟩ := blk3 ((hD7.block w3.heap.size hz6').trans HP6.out.k1); obtain ⟨p0, p1, p2, -⟩ := blk3 ((hD7.block w.heap.size hz6).trans HP6.out.k0); obtain ⟨A7, c7, rfl, hr7⟩ := ho7.shape; rw [HLN.out] at hr7 ⊢; have HR7 := Lib.hid hr7; have HR37 := Lib.hid (HR36.out.below hD7); clear ho7 hr7 hb7)
        | (go_at_call 21; with_reducible refine (eqGrid_same r c A3 A7 n c3 c7 xs _ _ _ (HR37.out.below (by (repeat (first | (with_reducible assumption) | (with_reducible exact Below.refl _ _) | (with_reducible refine below_drewN' ?_ _) | (with_reducible refine Below.drew ?_) | ((with_reducible refine Below.alloc ?_ ?_ _); rotate_left; focus (first | (simp; done) | (simp; omega) | omega)) | ((with_reducible refine Below.setCell ?_ ?_ _); rotate_left; focus (first | (simp; done) | (simp; omega) | omega)))))) (HR7.out.below (by (repeat (first | (with_reducible assumption) | (with_reducible exact Below.refl _ _) | (with_reducible refine below_drewN' ?_ _) | (with_reducible refine Below.drew ?_) | ((with_reducible refine Below.alloc ?_ ?_ _); rotate_left; focus (first | (simp; done) | (simp; omega) | omega)) | ((with_reducible refine Below.setCell ?_ ?_ _); rotate_left; focus (first | (simp; done) | (simp; omega) | omega)))))) (by first | omega | (simp; done) | (simp; omega)) (by first | omega | (simp; done) | (simp; omega)) (by omega)).mono ?_; rintro e8 w8 ⟨rfl, hb8⟩; have hD8 : Below w6.heap.size w6 w8 := below_then (by (repeat (first | (with_reducible assumption) | (with_reducible exact Below.refl _ _) | (with_reducible refine below_drewN' ?_ _) | (with_reducible refine Below.drew ?_) | ((with_reducible refine Below.alloc ?_ ?_ _); rotate_left; focus (first | (simp; done) | (simp; omega) | omega)) | ((with_reducible refine Below.setCell ?_ ?_ _); rotate_left; focus (first | (simp; done) | (simp; omega) | omega))))) (by first | omega | (simp; done) | (simp; omega)) hb8; have hsz8 := hD8.size; obtain ⟨q0, q1, q2, -⟩ := blk3 ((hD8.block w3.heap.size hz6').trans HP6.out.k1); obtain ⟨p0, p1, p2, -⟩ := blk3 ((hD8.block w.heap.size hz6).trans HP6.out.k0); clear hb8))
    have HP8 := Lib.hid (HP6.out.below hD8)
    have HO38 := Lib.hid (HO36.out.keep hD8)
    clear k0 k1 k2 g0 g1 g2 q0 q1 q2 p0 p1 p2 hD7 hD8 hsz7
    obtain ⟨k0, k1, k2, -⟩ := blk3 HP8.out.k1
    go_wp2_with fail
    go_at_call 24
    with_reducible refine (markGrid_any r c _ xs 1 _ _ HO38.out (by rw [HLN.out]; omega) (by omega) (by omega)).mono ?_
    rintro e9 w9 ⟨rfl, ho9, hg9⟩
    rw [HLN.out]
    have HP9 := Lib.hid (HP8.out.row0 hg9 (fun k e => HOL3.out k e))
    clear ho9 hg9 k0 k1 k2
    go_wp2_with fail
    go_at_call 22
    with_reducible refine (eqI_same A4 Aa L1 c4 ca es _ _ _ (HP9.out.own1.ri HL1.out) HP9.out.ra (by omega)).mono ?_
    rintro e10 w10 ⟨rfl, hb10⟩
    have HP10 := Lib.hid (HP9.out.below hb10)
    clear hb10
    go_wp2_with fail
    go_at_call 22
    with_reducible refine (eqI_same A5 Ab L2 c5 cb us _ _ _ (HP10.out.own2.ri HL2.out) HP10.out.rb (by omega)).mono ?_
    rintro e11 w11 ⟨rfl, hb11⟩
    have HP11 := Lib.hid (HP10.out.below hb11)
    clear hb11
    go_wp2_with fail
    go_at_call 23
    with_reducible refine (markInt64S_any _ es 1 _ _ HP11.out.own1 (by rw [HL1.out]; omega) (by omega) (by omega)).mono ?_
    rintro e12 w12 ⟨rfl, ho12, hg12⟩
    rw [HL1.out] at ho12 ⊢
    have HP12 := Lib.hid (HP11.out.mark ho12 hg12)
    clear ho12 hg12
    go_wp2_with fail
    go_at_call 23
    with_reducible refine (markInt64S_any _ us (1 + (L1 : Int)) _ _ HP12.out.own2 (by rw [HL2.out]; omega) (by omega) (by omega)).mono ?_
    rintro e13 w13 ⟨rfl, ho13, hg13⟩
    rw [HL2.out] at ho13 ⊢
    have HP13 := Lib.hid (HP12.out.swap.mark ho13 hg13).swap
    clear ho13 hg13
    go_wp2_with fail
    go_at_call 32
    with_reducible refine (heldInt64S_any _ L1 1 _ _ HP13.out.own1 (by omega) (by omega) (by omega)).mono ?_
    rintro e14 w14 ⟨rfl, rfl⟩
    go_wp2_with fail
    go_at_call 32
    with_reducible refine (heldInt64S_any _ L2 (1 + (L1 : Int)) _ _ HP13.out.own2 (by omega) (by omega) (by omega)).mono ?_
    rintro e15 w15 ⟨rfl, rfl⟩
    have h3 : ((1 + (L1 : Int) + L2) != (1 + (L1 : Int) + L2)) = false := by simp
    obtain ⟨t0, t1, t2, -⟩ := blk3 HP13.out.k0
    go_wp2_with fail
    go_at_call 35
    with_reducible refine (HT.out _ HP13.out.bw).mono ?_
    rintro e16 w16 ⟨v16, rfl, ho16, hb16⟩
    obtain ⟨A16, c16, rfl, hr16⟩ := ho16.shape
    rw [HLN.out] at hr16 ⊢
    have HR16 := Lib.hid hr16
    have HP16 := Lib.hid (HP13.out.below hb16)
    clear ho16 hr16 hb16 t0 t1 t2
    go_wp2_with fail
    go_at_call 36
    with_reducible refine (S2.out _ _ _ _ HR16.out (Nat.le_refl _)).mono ?_
    rintro e17 w17 ⟨vc, vd, rfl, hT17, hb17⟩
    obtain ⟨A17, c17, rfl, -⟩ := hT17.1.shape
    obtain ⟨A18, c18, rfl, -⟩ := hT17.2.1.shape
    rw [HL1.out, HL2.out] at hT17 ⊢
    have HT17 := Lib.hid hT17
    have HP17 := Lib.hid (HP16.out.below hb17)
    clear hT17 hb17
    go_wp2_with fail
    go_at_call 22
    with_reducible refine (eqI_same A17 Aa L1 c17 ca es _ _ _ (HT17.out.fst.ri HL1.out) HP17.out.ra (by omega)).mono ?_
    rintro e18 w18 ⟨rfl, hb18⟩
    have HP18 := Lib.hid (HP17.out.below hb18)
    have HT18 := Lib.hid (HT17.out.keep hb18)
    clear hb18
    go_wp2_with fail
    go_at_call 22
    with_reducible refine (eqI_same A18 Ab L2 c18 cb us _ _ _ (HT18.out.snd.ri HL2.out) HP18.out.rb (by omega)).mono ?_
    rintro e19 w19 ⟨rfl, hb19⟩
    have HP19 := Lib.hid (HP18.out.below hb19)
    clear hb19
    go_wp2_with fail
    go_at_call 32
    with_reducible refine (heldInt64S_any _ L1 1 _ _ HP19.out.own1 (by omega) (by omega) (by omega)).mono ?_
    rintro e20 w20 ⟨rfl, rfl⟩
    go_wp2_with fail
    go_at_call 32
    with_reducible refine (heldInt64S_any _ L2 (1 + (L1 : Int)) _ _ HP19.out.own2 (by omega) (by omega) (by omega)).mono ?_
    rintro e21 w21 ⟨rfl, rfl⟩
    go_wp2_with fail
    go_ret
    exact ⟨rfl, HP19.out.bw⟩
  · go_enter Try.func6, Try.ntmps6
    go_wp2_with (go_at_call 33; go_call (szGrid_no _ _ _ _ _ 1048576 _ (by omega) hn2) as e0 w0 ⟨rfl, hb0⟩; obtain ⟨hc0, hf0⟩ := bcell hb0; have hB0 : Below w.heap.size w w0 := (below_then (by first | (go_grown; done) | (repeat (first | (with_reducible assumption) | (with_reducible exact Below.refl _ _) | (with_reducible refine below_drewN' ?_ _) | (with_reducible refine Below.drew ?_) | ((with_reducible refine Below.alloc ?_ ?_ _); rotate_left; focus (first | (simp; done) | (simp; omega) | omega)) | ((with_reducible refine Below.setCell ?_ ?_ _); rotate_left; focus (first | (simp; done) | (simp; omega) | omega))))) (by first | omega | (simp; done) | (simp; omega)) hb0); have hz0a : w.heap.size < w0.heap.size := (by have := hb0.size; first | omega | (simp at this; omega)))
    go_ret
    exact ⟨rfl, by (repeat (first | (with_reducible assumption) | (with_reducible exact Below.refl _ _) | (with_reducible refine below_drewN' ?_ _) | (with_reducible refine Below.drew ?_) | ((with_reducible refine Below.alloc ?_ ?_ _); rotate_left; focus (first | (simp; done) | (simp; omega) | omega)) | ((with_reducible refine Below.setCell ?_ ?_ _); rotate_left; focus (first | (simp; done) | (simp; omega) | omega))))⟩
set_option maxRecDepth 100000 in
theorem lifted_FnExactTakeElements (os : Os) (started : os.Started) (H : Type) (enc : TypeId × Value → H) :
    ReturnsInHanded {} Try.checked os 6 .any (Rows.fnExactTakeElementsSpec.pre6 enc Try.prog Try.f6 Rows.fnExactTakeElementsRow.domain false) (Rows.fnExactTakeElementsSpec.post enc Try.prog Try.f6 false true false false) := by
  refine law_lifted (C := Try.checked) (tb := 4) own started (by kernel_rfl) Try.func6
    (ChangeSpec.witness6 (enc := enc) (C := Try.checked) false ⟨#[], #[.agg #[.int .i64 0, .int .i64 0, .slice none 0 0], .int .i64 0], []⟩ 8 (by kernel_rfl) (by kernel_rfl) (by kernel_rfl) (by kernel_rfl))
    laidOut (by kernel_rfl) rfl rfl Try.underlying4 ?_ ?_
  · intro ds hd
    match ds, hd with
    | [e0, e1], _ => rfl
  · intro W base args ds p hval hA hlt hsz
    have hval1 : ∀ (j : Nat) t v, Try.f6.params[j]? = some t → args[j]? = some v → Value.okWide Try.prog W .any base t v := hval
    have hA1 : DataW.TrodAll enc Try.prog W 0 (fun _ => true) true Try.f6.params.toList args.toList ds p := hA
    have hsz1 : (DataW.weightsEach Try.prog Try.f6.params.toList ds).all (· ≤ reachBytes) = true := hsz
    rw [Try.params6] at hval1 hA1 hsz1
    clear hval hA hsz
    obtain ⟨v0, v1, d0, d1, p0, p1, rfl, rfl, rfl, h0, h1⟩ := trodAll_two hA1
    obtain ⟨a, b, A, n, c, xs, rfl, _, _, hr, hn, _⟩ := arg_grid Try.underlying54 (by kernel_rfl) (by kernel_rfl) Try.underlying2 Try.underlying2 Try.underlying35 Try.underlying2 (by kernel_rfl) (hval1 0 54 v0 rfl rfl) h0 (fun x hx => hlt x (by simp [hx]))
    obtain ⟨v, rfl, _, _⟩ := ok_int Try.underlying2 (hval1 1 2 v1 rfl rfl)
    exact lawTakeElements a b A n c xs v W hr hn
theorem holds_FnExactTakeElements : Rows.FnExactTakeElementsSaid :=
  OpenClaim.holds_of_wide 6 Try.f6 rfl rfl rfl rfl rfl rfl rfl ⟨rfl, rfl, rfl, rfl, rfl⟩ rfl rfl rfl rfl rfl (by kernel_rfl) Try.func6 (by kernel_rfl)
    (of_decide_eq_true (by kernel_rfl)) (by unfold Func.isWrapper; first | (rw [if_pos (by decide +kernel)]; kernel_rfl) | (rw [if_neg (by decide +kernel)]; exact ⟨rfl, rfl⟩))
    (fun os started H enc _ => lifted_FnExactTakeElements os started H enc)

end Go.Proofs.Yteghpageamehkaa
