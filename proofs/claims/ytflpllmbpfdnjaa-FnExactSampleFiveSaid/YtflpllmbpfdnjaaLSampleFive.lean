/-
  The row FnExactSampleFive: for every raster, map and sampling the program's SampleFive returns what the reference's returns, in memory of its own, and leaves the raster as it was; no condition. Printed by gen/lsmap.py.
-/
import Derived.Test.YtflpllmbpfdnjaaC26Q
import Derived.Test.YtflpllmbpfdnjaaSmP
import Derived.Deep.RegionHeld3
import Derived.Deep.DeepCutAuto
namespace Go.Proofs.Ytflpllmbpfdnjaa
set_option linter.unusedSimpArgs false
open Go.ChangeShapes Go.WideShapes Go.ChangeAt Go.RowKit Go.Deep

set_option maxRecDepth 20000 in
set_option maxHeartbeats 40000000 in
theorem lawSampleFive (r c : Int) (A : Option Addr) (n cp : Nat) (xs : List Int) (m0 m1 m2 m3 m4 m5 m6 m7 m8 : Int) (R C lim mar : Int) (w : World) (hr : RI w w.heap.size A n xs) (hn2 : n ≤ 9223372036854775807) :
    Calls Try.prog 6 #[.agg #[.int .i64 r, .int .i64 c, .slice A n cp], .agg #[.int .i64 m0, .int .i64 m1, .int .i64 m2, .int .i64 m3, .int .i64 m4, .int .i64 m5, .int .i64 m6, .int .i64 m7, .int .i64 m8], .agg #[.int .i64 R, .int .i64 C, .int .i64 lim, .int .i64 mar]] w fun e' w' => e' = .returned (.bool true) ∧ Below w.heap.size w w' := by
  have HLN := Lib.hid hr.len
  have HR := Lib.hid hr
  clear hr
  by_cases hbig : n ≤ 1048576
  · have s1 := fun (A : Option Addr) (cp : Nat) (w : World) (B : Nat) (hr : RI w B A n xs) (hB : B ≤ w.heap.size) => sSampleFive_any r c A n cp xs m0 m1 m2 m3 m4 m5 m6 m7 m8 R C lim mar w B hr hB (by omega)
    have s2 := fun (A : Option Addr) (cp : Nat) (w : World) (B : Nat) (hr : RI w B A n xs) (hB : B ≤ w.heap.size) => SampleFive_any r c A n cp xs m0 m1 m2 m3 m4 m5 m6 m7 m8 R C lim mar w B hr hB (by omega)
    obtain ⟨K, hK⟩ : ∃ K, SampleFive_K r c xs m0 m1 m2 m3 m4 m5 m6 m7 m8 R C lim mar = K := ⟨_, rfl⟩
    obtain ⟨GL, hGL⟩ : ∃ GL, SampleFive_L r c xs m0 m1 m2 m3 m4 m5 m6 m7 m8 R C lim mar = GL := ⟨_, rfl⟩
    have hle : GL.length ≤ 3500 := hGL ▸ SampleFive_le r c xs m0 m1 m2 m3 m4 m5 m6 m7 m8 R C lim mar
    rw [hK, hGL] at s1 s2
    clear hK hGL
    obtain ⟨L, hL⟩ : ∃ L, GL.length = L := ⟨_, rfl⟩
    rw [hL] at hle
    generalize gI K R = GR at s1 s2
    generalize gI K C = GN at s1 s2
    have HL := Lib.hid hL
    have S1 := Lib.hid s1
    have S2 := Lib.hid s2
    clear s1 s2 hL
    have h1 : (K != K) = false := by simp
    have HTM := Lib.hid (fun w => toMap_any m0 m1 m2 m3 m4 m5 m6 m7 m8 w)
    have HTS := Lib.hid (fun w => toSampling_any R C lim mar w)
    have HT := Lib.hid (fun w' (hb : Below w.heap.size w w') => toRaster_any r c A n cp xs w' w.heap.size (HR.out.below hb) hb.size (by omega))
    go_enter Try.func6, Try.ntmps6
    go_wp2_with (go_at_call 10; go_call (szRaster_ok _ _ _ _ _ 1048576 _ hbig (by omega)) as e0 w0 ⟨rfl, hb0⟩; obtain ⟨hc0, hf0⟩ := bcell hb0; have hB0 : Below w.heap.size w w0 := (below_then (by first | (go_grown; done) | (repeat (first | (with_reducible assumption) | (with_reducible exact Below.refl _ _) | (with_reducible refine below_drewN' ?_ _) | (with_reducible refine Below.drew ?_) | ((with_reducible refine Below.alloc ?_ ?_ _); rotate_left; focus (first | (simp; done) | (simp; omega) | omega)) | ((with_reducible refine Below.setCell ?_ ?_ _); rotate_left; focus (first | (simp; done) | (simp; omega) | omega))))) (by first | omega | (simp; done) | (simp; omega)) hb0); have hz0a : w.heap.size < w0.heap.size := (by have := hb0.size; first | omega | (simp at this; omega)); have hz0b : w.heap.size + 1 < w0.heap.size := (by have := hb0.size; first | omega | (simp at this; omega)); have hz0c : w.heap.size + 1 + 1 < w0.heap.size := (by have := hb0.size; first | omega | (simp at this; omega)))
    have HX0 := Lib.hid (show BxG w.heap.size r c A n cp m0 m1 m2 m3 m4 m5 m6 m7 m8 R C lim mar 24 26 28 w0 from
      ⟨blk_below (blk_alloc (blk_alloc (heap_alloc_new w (.cells #[.int .i64 r, .int .i64 c, .slice A n cp] 24)) (by simp)) (by simp; try omega)) hb0 (by simp; try omega), blk_below (blk_alloc (heap_alloc_at (w := w.alloc (.cells #[.int .i64 r, .int .i64 c, .slice A n cp] 24)) (b := w.heap.size + 1) (o := .cells #[.int .i64 m0, .int .i64 m1, .int .i64 m2, .int .i64 m3, .int .i64 m4, .int .i64 m5, .int .i64 m6, .int .i64 m7, .int .i64 m8] 26) (by simp)) (by simp; try omega)) hb0 (by simp; try omega), blk_below (heap_alloc_at (w := (w.alloc (.cells #[.int .i64 r, .int .i64 c, .slice A n cp] 24)).alloc (.cells #[.int .i64 m0, .int .i64 m1, .int .i64 m2, .int .i64 m3, .int .i64 m4, .int .i64 m5, .int .i64 m6, .int .i64 m7, .int .i64 m8] 26)) (b := w.heap.size + 1 + 1) (o := .cells #[.int .i64 R, .int .i64 C, .int .i64 lim, .int .i64 mar] 28) (by simp)) hb0 (by simp; try omega)⟩)
    obtain ⟨q0a, q0b, q0c, q0d, q0e, q0f, q0g, q0h, q0i, q0j, q0k, q0l, q0m, q0n, q0o, q0p⟩ := HX0.out.cells
    have HB0 := Lib.hid hB0
    have HT0 := Lib.hid (fun w' (hb : Below w0.heap.size w0 w') => HT.out w' (HB0.out.trans (hb.mono (Nat.le_of_lt hz0a))))
    clear hc0 hf0 hb0
    go_cut [8, 9] (fun sa sb wx => sb = .int .i64 K ∧ ∃ (g : Nat) (Ar : Option Addr) (cr : Nat), sa = .pointer (some ⟨g, 0, none⟩) ∧ Hid (CutR w0 (.cells #[.int .i64 GR, .int .i64 GN, .slice Ar L cr] 41 (0, 0)) (.slice Ar L cr) GL g wx))
    case first =>
      go_region_held3 (fun w' => w'.cell? ⟨w.heap.size, 0, none⟩ = some (.int .i64 r) ∧ w'.cell? ⟨w.heap.size, 1, none⟩ = some (.int .i64 c) ∧ w'.cell? ⟨w.heap.size, 2, none⟩ = some (.slice A n cp) ∧ w'.cell? ⟨w.heap.size + 1, 0, none⟩ = some (.int .i64 m0) ∧ w'.cell? ⟨w.heap.size + 1, 1, none⟩ = some (.int .i64 m1) ∧ w'.cell? ⟨w.heap.size + 1, 2, none⟩ = some (.int .i64 m2) ∧ w'.cell? ⟨w.heap.size + 1, 3, none⟩ = some (.int .i64 m3) ∧ w'.cell? ⟨w.heap.size + 1, 4, none⟩ = some (.int .i64 m4) ∧ w'.cell? ⟨w.heap.size + 1, 5, none⟩ = some (.int .i64 m5) ∧ w'.cell? ⟨w.heap.size + 1, 6, none⟩ = some (.int .i64 m6) ∧ w'.cell? ⟨w.heap.size + 1, 7, none⟩ = some (.int .i64 m7) ∧ w'.cell? ⟨w.heap.size + 1, 8, none⟩ = some (.int .i64 m8) ∧ w'.cell? ⟨w.heap.size + 1 + 1, 0, none⟩ = some (.int .i64 R) ∧ w'.cell? ⟨w.heap.size + 1 + 1, 1, none⟩ = some (.int .i64 C) ∧ w'.cell? ⟨w.heap.size + 1 + 1, 2, none⟩ = some (.int .i64 lim) ∧ w'.cell? ⟨w.heap.size + 1 + 1, 3, none⟩ = some (.int .i64 mar))
        (first | exact (BxG.set3 HX4.out (by omega)).cells | exact HX4.out.cells | exact (BxG.allocS HX4.out (by omega)).cells | exact HX3.out.cells | exact (BxG.allocS HX3.out (by omega)).cells | exact HX2.out.cells | exact (BxG.allocS HX2.out (by omega)).cells | exact HX1.out.cells | exact (BxG.allocS HX1.out (by omega)).cells | exact HX0.out.cells | exact (BxG.drewS HX0.out).cells | exact (BxG.drewS (BxG.allocS HX0.out (by omega))).cells | go_keep)
        (first
          | (go_at_call 12; with_reducible refine (HT0.out _ (by (repeat (first | (with_reducible assumption) | (with_reducible exact Below.refl _ _) | (with_reducible refine below_drewN' ?_ _) | (with_reducible refine Below.drew ?_) | ((with_reducible refine Below.alloc ?_ ?_ _); rotate_left; focus (first | (simp; done) | (simp; omega) | omega)) | ((with_reducible refine Below.setCell ?_ ?_ _); rotate_left; focus (first | (simp; done) | (simp; omega) | omega)))))).mono ?_; rintro e1 w1 ⟨v1, rfl, ho1, hb1⟩; have hD1 : Below w0.heap.size w0 w1 := below_then (by (repeat (first | (with_reducible assumption) | (with_reducible exact Below.refl _ _) | (with_reducible refine below_drewN' ?_ _) | (with_reducible refine Below.drew ?_) | ((with_reducible refine Below.alloc ?_ ?_ _); rotate_left; focus (first | (simp; done) | (simp; omega) | omega)) | ((with_reducible refine Below.setCell ?_ ?_ _); rotate_left; focus (first | (simp; done) | (simp; omega) | omega))))) (by first | omega | (simp; done) | (simp; omega)) hb1; have hsz1 := hD1.size; have sq1 := hb1.size; (first | simp at sq1 | skip); have HX1 := Lib.hid (HX0.out.below hD1 (by omega)); obtain ⟨A1, c1, rfl, hr1⟩ := ho1.shape; rw [HLN.out] at hr1 ⊢; have HR1 := Lib.hid hr1; clear ho1 hr1; skip)
          | (go_at_call 13; with_reducible refine (HTM.out _).mono ?_; rintro e2 w2 ⟨rfl, hb2⟩; have hD2 : Below w0.heap.size w0 w2 := below_then (by (repeat (first | (with_reducible assumption) | (with_reducible exact Below.refl _ _) | (with_reducible refine below_drewN' ?_ _) | (with_reducible refine Below.drew ?_) | ((with_reducible refine Below.alloc ?_ ?_ _); rotate_left; focus (first | (simp; done) | (simp; omega) | omega)) | ((with_reducible refine Below.setCell ?_ ?_ _); rotate_left; focus (first | (simp; done) | (simp; omega) | omega))))) (by first | omega | (simp; done) | (simp; omega)) hb2; have hsz2 := hD2.size; have sq2 := hb2.size; (first | simp at sq2 | skip); have HX2 := Lib.hid (HX0.out.below hD2 (by omega)); have hE2 : Below w1.heap.size w1 w2 := below_then (by (repeat (first | (with_reducible assumption) | (with_reducible exact Below.refl _ _) | (with_reducible refine below_drewN' ?_ _) | (with_reducible refine Below.drew ?_) | ((with_reducible refine Below.alloc ?_ ?_ _); rotate_left; focus (first | (simp; done) | (simp; omega) | omega)) | ((with_reducible refine Below.setCell ?_ ?_ _); rotate_left; focus (first | (simp; done) | (simp; omega) | omega))))) (by first | omega | (simp; done) | (simp; omega)) hb2; have hez2 := hE2.size; skip)
          | (go_at_call 14; with_reducible refine (HTS.out _).mono ?_; rintro e3 w3 ⟨rfl, hb3⟩; have hD3 : Below w0.heap.size w0 w3 := below_then (by (repeat (first | (with_reducible assumption) | (with_reducible exact Below.refl _ _) | (with_reducible refine below_drewN' ?_ _) | (with_reducible refine Below.drew ?_) | ((with_reducible refine Below.alloc ?_ ?_ _); rotate_left; focus (first | (simp; done) | (simp; omega) | omega)) | ((with_reducible refine Below.setCell ?_ ?_ _); rotate_left; focus (first | (simp; done) | (simp; omega) | omega))))) (by first | omega | (simp; done) | (simp; omega)) hb3; have hsz3 := hD3.size; have sq3 := hb3.size; (first | simp at sq3 | skip); have HX3 := Lib.hid (HX0.out.below hD3 (by omega)); have hE3 : Below w1.heap.size w1 w3 := below_then (by (repeat (first | (with_reducible assumption) | (with_reducible exact Below.refl _ _) | (with_reducible refine below_drewN' ?_ _) | (with_reducible refine Below.drew ?_) | ((with_reducible refine Below.alloc ?_ ?_ _); rotate_left; focus (first | (simp; done) | (simp; omega) | omega)) | ((with_reducible refine Below.setCell ?_ ?_ _); rotate_left; focus (first | (simp; done) | (simp; omega) | omega))))) (by first | omega | (simp; done) | (simp; omega)) hb3; have hez3 := hE3.size; skip)
          | (go_at_call 25; with_reducible refine (S1.out _ _ _ _ (HR1.out.below (by (repeat (first | (with_reducible assumption) | (with_reducible exact Below.refl _ _) | (with_reducible refine below_drewN' ?_ _) | (with_reducible refine Below.drew ?_) | ((with_reducible refine Below.alloc ?_ ?_ _); rotate_left; focus (first | (simp; done) | (simp; omega) | omega)) | ((with_reducible refine Below.setCell ?_ ?_ _); rotate_left; focus (first | (simp; done) | (simp; omega) | omega)))))) (by first | omega | (simp; done) | (simp; omega))).mono ?_; rintro e4 w4 ⟨v4, rfl, ho4, hb4⟩; have hD4 : Below w0.heap.size w0 w4 := below_then (by (repeat (first | (with_reducible assumption) | (with_reducible exact Below.refl _ _) | (with_reducible refine below_drewN' ?_ _) | (with_reducible refine Below.drew ?_) | ((with_reducible refine Below.alloc ?_ ?_ _); rotate_left; focus (first | (simp; done) | (simp; omega) | omega)) | ((with_reducible refine Below.setCell ?_ ?_ _); rotate_left; focus (first | (simp; done) | (simp; omega) | omega))))) (by first | omega | (simp; done) | (simp; omega)) hb4; have hsz4 := hD4.size; have sq4 := hb4.size; (first | simp at sq4 | skip); have HX4 := Lib.hid (HX0.out.below hD4 (by omega)); obtain ⟨A4, c4, rfl, hr4⟩ := ho4.shape; rw [HL.out] at ho4 ⊢; have HO4 := Lib.hid ho4; clear ho4 hr4; (first | (refine (fun (hg0 : w4.heap[w0.heap.size]? = some (.cells #[.int .i64 0, .int .i64 0, .slice none 0 0] 41 (0, 0))) => ?_) ?_; rotate_left; (focus ((repeat (first | exact heap_alloc_new _ _ | rw [heap_drew1] | (refine (hb4.block _ ?_).trans ?_; (focus (first | omega | (simp; done) | (simp; omega)))) | (refine (hb3.block _ ?_).trans ?_; (focus (first | omega | (simp; done) | (simp; omega)))) | (refine (hb2.block _ ?_).trans ?_; (focus (first | omega | (simp; done) | (simp; omega)))) | (refine (hb1.block _ ?_).trans ?_; (focus (first | omega | (simp; done) | (simp; omega)))))); all_goals fail)); obtain ⟨gg0, gg1, gg2, ggf⟩ := blk3 hg0) | skip); (first | (refine (fun (hg1 : w4.heap[w1.heap.size]? = some (.cells #[.int .i64 0, .int .i64 0, .slice none 0 0] 41 (0, 0))) => ?_) ?_; rotate_left; (focus ((repeat (first | exact heap_alloc_new _ _ | rw [heap_drew1] | (refine (hb4.block _ ?_).trans ?_; (focus (first | omega | (simp; done) | (simp; omega)))) | (refine (hb3.block _ ?_).trans ?_; (focus (first | omega | (simp; done) | (simp; omega)))) | (refine (hb2.block _ ?_).trans ?_; (focus (first | omega | (simp; done) | (simp; omega)))) | (refine (hb1.block _ ?_).trans ?_; (focus (first | omega | (simp; done) | (simp; omega)))))); all_goals fail)); obtain ⟨gg0, gg1, gg2, ggf⟩ := blk3 hg1) | skip); (first | (refine (fun (hg2 : w4.heap[w2.heap.size]? = some (.cells #[.int .i64 0, .int .i64 0, .slice none 0 0] 41 (0, 0))) => ?_) ?_; rotate_left; (focus ((repeat (first | exact heap_alloc_new _ _ | rw [heap_drew1] | (refine (hb4.block _ ?_).trans ?_; (focus (first | omega | (simp; done) | (simp; omega)))) | (refine (hb3.block _ ?_).trans ?_; (focus (first | omega | (simp; done) | (simp; omega)))) | (refine (hb2.block _ ?_).trans ?_; (focus (first | omega | (simp; done) | (simp; omega)))) | (refine (hb1.block _ ?_).trans ?_; (focus (first | omega | (simp; done) | (simp; omega)))))); all_goals fail)); obtain ⟨gg0, gg1, gg2, ggf⟩ := blk3 hg2) | skip); (first | (refine (fun (hg3 : w4.heap[w3.heap.size]? = some (.cells #[.int .i64 0, .int .i64 0, .slice none 0 0] 41 (0, 0))) => ?_) ?_; rotate_left; (focus ((repeat (first | exact heap_alloc_new _ _ | rw [heap_drew1] | (refine (hb4.block _ ?_).trans ?_; (focus (first | omega | (simp; done) | (simp; omega)))) | (refine (hb3.block _ ?_).trans ?_; (focus (first | omega | (simp; done) | (simp; omega)))) | (refine (hb2.block _ ?_).trans ?_; (focus (first | omega | (simp; done) | (simp; omega)))) | (refine (hb1.block _ ?_).trans ?_; (focus (first | omega | (simp; done) | (simp; omega)))))); all_goals fail)); obtain ⟨gg0, gg1, gg2, ggf⟩ := blk3 hg3) | skip); skip))
      all_goals
          go_wp2_with fail
          go_meet
          case rel =>
            first
              | (refine ⟨rfl, _, _, _, rfl, Lib.hid (CutR.last hD4 HO4.out ?_)⟩ <;> (first | omega | (simp; done) | (simp; omega)))
              | (refine ⟨rfl, _, _, _, rfl, Lib.hid (CutR.early hD4 HO4.out ?_ ?_ ?_ ?_ hg0)⟩ <;> (first | omega | (simp; done) | (simp; omega)))
              | (refine ⟨rfl, _, _, _, rfl, Lib.hid (CutR.early hD4 HO4.out ?_ ?_ ?_ ?_ hg1)⟩ <;> (first | omega | (simp; done) | (simp; omega)))
              | (refine ⟨rfl, _, _, _, rfl, Lib.hid (CutR.early hD4 HO4.out ?_ ?_ ?_ ?_ hg2)⟩ <;> (first | omega | (simp; done) | (simp; omega)))
              | (refine ⟨rfl, _, _, _, rfl, Lib.hid (CutR.early hD4 HO4.out ?_ ?_ ?_ ?_ hg3)⟩ <;> (first | omega | (simp; done) | (simp; omega)))
    obtain ⟨rfl, g4, A4, c4, rfl, HC4⟩ := hcut
    rename World => wa
    have hDa := HC4.out.bw
    have hz4a := HC4.out.lo
    have hza := HC4.out.hi
    have HR4a := Lib.hid (HC4.out.own.riS HL.out)
    have HS4 := Lib.hid HC4.out.blk
    clear HC4 q0a q0b q0c q0d q0e q0f q0g q0h q0i q0j q0k q0l q0m q0n q0o q0p
    obtain ⟨qaa, qab, qac, qad, qae, qaf, qag, qah, qai, qaj, qak, qal, qam, qan, qao, qap⟩ := (HX0.out.below hDa (by omega)).cells
    go_wp2_with fail
    go_at_call 12
    with_reducible refine (HT0.out _ hDa).mono ?_
    rintro e5 w5 ⟨v5, rfl, ho5, hb5⟩
    have hs5 := hb5.size
    obtain ⟨A5, c5, rfl, hr5⟩ := ho5.shape
    rw [HLN.out] at ho5 hr5 ⊢
    have HO5 := Lib.hid ho5
    have HR5 := Lib.hid hr5
    have hD5 : Below w0.heap.size w0 w5 := hDa.trans (hb5.mono hDa.size)
    have HS5 := Lib.hid (blk_below HS4.out hb5 hza)
    have HR45 := Lib.hid (HR4a.out.below hb5)
    have hz45 : g4 < w5.heap.size := by omega
    have HOL5 : Hid (∀ k, Value.ownBlock (.slice A5 n c5) = some k → wa.heap.size ≤ k ∧ k < w5.heap.size) := Lib.hid (fun k e => by have := World.ownsRow.lt HO5.out k e; omega)
    clear ho5 hr5 hb5 qaa qab qac qad qae qaf qag qah qai qaj qak qal qam qan qao qap HS4 HR4a hDa
    go_wp2_with fail
    have hD6 : Below w0.heap.size w0 (w5.alloc (.cells #[.int .i64 r, .int .i64 c, .slice A5 n c5] 32)) := hD5.alloc (by have := hD5.size; omega) _
    have HG := Lib.hid (heap_alloc_new w5 (.cells #[.int .i64 r, .int .i64 c, .slice A5 n c5] 32))
    have HR6 := Lib.hid ((HR5.out.alloc (Nat.le_refl _) (.cells #[.int .i64 r, .int .i64 c, .slice A5 n c5] 32)).more (B' := (w5.alloc (.cells #[.int .i64 r, .int .i64 c, .slice A5 n c5] 32)).heap.size) (by simp))
    have HS6 := Lib.hid (blk_alloc (u := .cells #[.int .i64 r, .int .i64 c, .slice A5 n c5] 32) HS5.out hz45)
    have HR46 := Lib.hid (HR45.out.alloc hs5 (.cells #[.int .i64 r, .int .i64 c, .slice A5 n c5] 32))
    have HO6 := Lib.hid (HO5.out.keep ((Below.refl _ _).alloc (Nat.le_refl _) (.cells #[.int .i64 r, .int .i64 c, .slice A5 n c5] 32)))
    have hzx : w5.heap.size < (w5.alloc (.cells #[.int .i64 r, .int .i64 c, .slice A5 n c5] 32)).heap.size := by simp
    generalize w5.alloc (.cells #[.int .i64 r, .int .i64 c, .slice A5 n c5] 32) = w6 at *
    have hs6 := hD6.size
    have HX6 := Lib.hid (HX0.out.below hD6 (by omega))
    have HB6 := Lib.hid (HB0.out.trans (hD6.mono (by omega)))
    obtain ⟨q6a, q6b, q6c, q6d, q6e, q6f, q6g, q6h, q6i, q6j, q6k, q6l, q6m, q6n, q6o, q6p⟩ := HX6.out.cells
    obtain ⟨z60, z61, z62, -⟩ := blk3 HG.out
    have hz04 : w.heap.size + 1 + 1 < g4 := by omega
    clear hD5 hD6 HX0 HB0 HT0 HS5 HR45 HO5
    go_cut [11, 12] (fun sa sb wx => sb = .int .i64 K ∧ ∃ (g : Nat) (Ar : Option Addr) (cr : Nat), sa = .pointer (some ⟨g, 0, none⟩) ∧ Hid (CutR w6 (.cells #[.int .i64 GR, .int .i64 GN, .slice Ar L cr] 41 (0, 0)) (.slice Ar L cr) GL g wx))
    case first =>
      go_region_held3 (fun w' => (w'.cell? ⟨w.heap.size, 0, none⟩ = some (.int .i64 r) ∧ w'.cell? ⟨w.heap.size, 1, none⟩ = some (.int .i64 c) ∧ w'.cell? ⟨w.heap.size, 2, none⟩ = some (.slice A n cp) ∧ w'.cell? ⟨w.heap.size + 1, 0, none⟩ = some (.int .i64 m0) ∧ w'.cell? ⟨w.heap.size + 1, 1, none⟩ = some (.int .i64 m1) ∧ w'.cell? ⟨w.heap.size + 1, 2, none⟩ = some (.int .i64 m2) ∧ w'.cell? ⟨w.heap.size + 1, 3, none⟩ = some (.int .i64 m3) ∧ w'.cell? ⟨w.heap.size + 1, 4, none⟩ = some (.int .i64 m4) ∧ w'.cell? ⟨w.heap.size + 1, 5, none⟩ = some (.int .i64 m5) ∧ w'.cell? ⟨w.heap.size + 1, 6, none⟩ = some (.int .i64 m6) ∧ w'.cell? ⟨w.heap.size + 1, 7, none⟩ = some (.int .i64 m7) ∧ w'.cell? ⟨w.heap.size + 1, 8, none⟩ = some (.int .i64 m8) ∧ w'.cell? ⟨w.heap.size + 1 + 1, 0, none⟩ = some (.int .i64 R) ∧ w'.cell? ⟨w.heap.size + 1 + 1, 1, none⟩ = some (.int .i64 C) ∧ w'.cell? ⟨w.heap.size + 1 + 1, 2, none⟩ = some (.int .i64 lim) ∧ w'.cell? ⟨w.heap.size + 1 + 1, 3, none⟩ = some (.int .i64 mar)) ∧ w'.cell? ⟨w5.heap.size, 0, none⟩ = some (.int .i64 r) ∧ w'.cell? ⟨w5.heap.size, 1, none⟩ = some (.int .i64 c) ∧ w'.cell? ⟨w5.heap.size, 2, none⟩ = some (.slice A5 n c5))
        (first | exact ⟨(BxG.set3 HX9.out (by omega)).cells, blk3e (blk_below HG.out hD9 (by omega)) (by omega)⟩ | exact ⟨HX9.out.cells, blk3s (blk_below HG.out hD9 (by omega))⟩ | exact ⟨(BxG.allocS HX9.out (by omega)).cells, blk3a (blk_below HG.out hD9 (by omega)) (by omega)⟩ | exact ⟨HX8.out.cells, blk3s (blk_below HG.out hD8 (by omega))⟩ | exact ⟨(BxG.allocS HX8.out (by omega)).cells, blk3a (blk_below HG.out hD8 (by omega)) (by omega)⟩ | exact ⟨HX7.out.cells, blk3s (blk_below HG.out hD7 (by omega))⟩ | exact ⟨(BxG.allocS HX7.out (by omega)).cells, blk3a (blk_below HG.out hD7 (by omega)) (by omega)⟩ | exact ⟨HX6.out.cells, blk3s HG.out⟩ | exact ⟨(BxG.drewS HX6.out).cells, blk3s HG.out⟩ | exact ⟨(BxG.drewS (BxG.allocS HX6.out (by omega))).cells, blk3a HG.out (by omega)⟩ | go_keep)
        (first
          | (go_at_call 13; with_reducible refine (HTM.out _).mono ?_; rintro e7 w7 ⟨rfl, hb7⟩; have hD7 : Below w6.heap.size w6 w7 := below_then (by (repeat (first | (with_reducible assumption) | (with_reducible exact Below.refl _ _) | (with_reducible refine below_drewN' ?_ _) | (with_reducible refine Below.drew ?_) | ((with_reducible refine Below.alloc ?_ ?_ _); rotate_left; focus (first | (simp; done) | (simp; omega) | omega)) | ((with_reducible refine Below.setCell ?_ ?_ _); rotate_left; focus (first | (simp; done) | (simp; omega) | omega))))) (by first | omega | (simp; done) | (simp; omega)) hb7; have hsz7 := hD7.size; have sq7 := hb7.size; (first | simp at sq7 | skip); have HX7 := Lib.hid (HX6.out.below hD7 (by omega)); have HY7 := Lib.hid (blk3s (blk_below HG.out hD7 (by omega))); skip)
          | (go_at_call 14; with_reducible refine (HTS.out _).mono ?_; rintro e8 w8 ⟨rfl, hb8⟩; have hD8 : Below w6.heap.size w6 w8 := below_then (by (repeat (first | (with_reducible assumption) | (with_reducible exact Below.refl _ _) | (with_reducible refine below_drewN' ?_ _) | (with_reducible refine Below.drew ?_) | ((with_reducible refine Below.alloc ?_ ?_ _); rotate_left; focus (first | (simp; done) | (simp; omega) | omega)) | ((with_reducible refine Below.setCell ?_ ?_ _); rotate_left; focus (first | (simp; done) | (simp; omega) | omega))))) (by first | omega | (simp; done) | (simp; omega)) hb8; have hsz8 := hD8.size; have sq8 := hb8.size; (first | simp at sq8 | skip); have HX8 := Lib.hid (HX6.out.below hD8 (by omega)); have HY8 := Lib.hid (blk3s (blk_below HG.out hD8 (by omega))); skip)
          | (go_at_call 26; with_reducible refine (S2.out _ _ _ _ (HR6.out.below (by (repeat (first | (with_reducible assumption) | (with_reducible exact Below.refl _ _) | (with_reducible refine below_drewN' ?_ _) | (with_reducible refine Below.drew ?_) | ((with_reducible refine Below.alloc ?_ ?_ _); rotate_left; focus (first | (simp; done) | (simp; omega) | omega)) | ((with_reducible refine Below.setCell ?_ ?_ _); rotate_left; focus (first | (simp; done) | (simp; omega) | omega)))))) (by first | omega | (simp; done) | (simp; omega))).mono ?_; rintro e9 w9 ⟨v9, rfl, ho9, hb9⟩; have hD9 : Below w6.heap.size w6 w9 := below_then (by (repeat (first | (with_reducible assumption) | (with_reducible exact Below.refl _ _) | (with_reducible refine below_drewN' ?_ _) | (with_reducible refine Below.drew ?_) | ((with_reducible refine Below.alloc ?_ ?_ _); rotate_left; focus (first | (simp; done) | (simp; omega) | omega)) | ((with_reducible refine Below.setCell ?_ ?_ _); rotate_left; focus (first | (simp; done) | (simp; omega) | omega))))) (by first | omega | (simp; done) | (simp; omega)) hb9; have hsz9 := hD9.size; have sq9 := hb9.size; (first | simp at sq9 | skip); have HX9 := Lib.hid (HX6.out.below hD9 (by omega)); have HY9 := Lib.hid (blk3s (blk_below HG.out hD9 (by omega))); obtain ⟨A9, c9, rfl, hr9⟩ := ho9.shape; rw [HL.out] at ho9 ⊢; have HO9 := Lib.hid ho9; clear ho9 hr9; (first | (refine (fun (hg0 : w9.heap[w6.heap.size]? = some (.cells #[.int .i64 0, .int .i64 0, .slice none 0 0] 41 (0, 0))) => ?_) ?_; rotate_left; (focus ((repeat (first | exact heap_alloc_new _ _ | rw [heap_drew1] | (refine (hb9.block _ ?_).trans ?_; (focus (first | omega | (simp; done) | (simp; omega)))) | (refine (hb8.block _ ?_).trans ?_; (focus (first | omega | (simp; done) | (simp; omega)))) | (refine (hb7.block _ ?_).trans ?_; (focus (first | omega | (simp; done) | (simp; omega)))))); all_goals fail)); obtain ⟨gg0, gg1, gg2, ggf⟩ := blk3 hg0) | skip); (first | (refine (fun (hg1 : w9.heap[w7.heap.size]? = some (.cells #[.int .i64 0, .int .i64 0, .slice none 0 0] 41 (0, 0))) => ?_) ?_; rotate_left; (focus ((repeat (first | exact heap_alloc_new _ _ | rw [heap_drew1] | (refine (hb9.block _ ?_).trans ?_; (focus (first | omega | (simp; done) | (simp; omega)))) | (refine (hb8.block _ ?_).trans ?_; (focus (first | omega | (simp; done) | (simp; omega)))) | (refine (hb7.block _ ?_).trans ?_; (focus (first | omega | (simp; done) | (simp; omega)))))); all_goals fail)); obtain ⟨gg0, gg1, gg2, ggf⟩ := blk3 hg1) | skip); (first | (refine (fun (hg2 : w9.heap[w8.heap.size]? = some (.cells #[.int .i64 0, .int .i64 0, .slice none 0 0] 41 (0, 0))) => ?_) ?_; rotate_left; (focus ((repeat (first | exact heap_alloc_new _ _ | rw [heap_drew1] | (refine (hb9.block _ ?_).trans ?_; (focus (first | omega | (simp; done) | (simp; omega)))) | (refine (hb8.block _ ?_).trans ?_; (focus (first | omega | (simp; done) | (simp; omega)))) | (refine (hb7.block _ ?_).trans ?_; (focus (first | omega | (simp; done) | (simp; omega)))))); all_goals fail)); obtain ⟨gg0, gg1, gg2, ggf⟩ := blk3 hg2) | skip); skip))
      all_goals
          go_wp2_with fail
          go_meet
          case rel =>
            first
              | (refine ⟨rfl, _, _, _, rfl, Lib.hid (CutR.last hD9 HO9.out ?_)⟩ <;> (first | omega | (simp; done) | (simp; omega)))
              | (refine ⟨rfl, _, _, _, rfl, Lib.hid (CutR.early hD9 HO9.out ?_ ?_ ?_ ?_ hg0)⟩ <;> (first | omega | (simp; done) | (simp; omega)))
              | (refine ⟨rfl, _, _, _, rfl, Lib.hid (CutR.early hD9 HO9.out ?_ ?_ ?_ ?_ hg1)⟩ <;> (first | omega | (simp; done) | (simp; omega)))
              | (refine ⟨rfl, _, _, _, rfl, Lib.hid (CutR.early hD9 HO9.out ?_ ?_ ?_ ?_ hg2)⟩ <;> (first | omega | (simp; done) | (simp; omega)))
    obtain ⟨rfl, g9, A9, c9, rfl, HC9⟩ := hcut
    rename World => w10
    have hD10 := HC9.out.bw
    have hs10 := hD10.size
    have hl10 := HC9.out.lo
    have HP10 := Lib.hid (show SmP w r c A n cp m0 m1 m2 m3 m4 m5 m6 m7 m8 R C lim mar 24 26 28 g4 wa.heap.size w5.heap.size g9 (.cells #[.int .i64 GR, .int .i64 GN, .slice A4 L c4] 41 (0, 0)) (.cells #[.int .i64 r, .int .i64 c, .slice A5 n c5] 32 (0, 0)) (.cells #[.int .i64 GR, .int .i64 GN, .slice A9 L c9] 41 (0, 0)) (.slice A9 L c9) GL A4 L GL w10 from
      ⟨⟨hz04, hza, hs5, by omega, HC9.out.hi⟩, HB6.out.trans (hD10.mono (by omega)), HX6.out.below hD10 (by omega), blk_below HS6.out hD10 (by omega), blk_below HG.out hD10 (by omega), HC9.out.blk,
        HC9.out.own.more (by omega), HC9.out.ne, HR46.out.below (hD10.mono (by omega))⟩)
    have HO10 := Lib.hid (HO6.out.keep hD10)
    clear q6a q6b q6c q6d q6e q6f q6g q6h q6i q6j q6k q6l q6m q6n q6o q6p z60 z61 z62 hD10 hs10 hl10 HX6 HG HS6 HR46 HO6 HR6 HB6 hz45 hz04 hzx hs6 HC9 hz4a hza hs5
    obtain ⟨b0, b1, b2, -⟩ := blk3 HP10.out.kg
    obtain ⟨a0, a1, a2, -⟩ := blk3 HP10.out.ks
    go_wp2_with fail
    go_at_call 19
    with_reducible refine (eqGrid_same GR GN A9 A4 L c9 c4 GL _ _ _ (HP10.out.own.riS HL.out) HP10.out.ra (Nat.le_refl _) (by have := HP10.out.sz; omega) (by omega)).mono ?_
    rintro e11 w11 ⟨rfl, hb11⟩
    have HP11 := Lib.hid (HP10.out.below hb11)
    have HO11 := Lib.hid (HO10.out.keep hb11)
    clear hb11 a0 a1 a2 b0 b1 b2 HP10 HO10
    have HR11 := Lib.hid (HO11.out.riS HLN.out)
    have HT11 := Lib.hid (fun w' (hb : Below w11.heap.size w11 w') => HT.out w' (HP11.out.bw.trans (hb.mono (by have := HP11.out.sz; omega))))
    obtain ⟨q11a, q11b, q11c, q11d, q11e, q11f, q11g, q11h, q11i, q11j, q11k, q11l, q11m, q11n, q11o, q11p⟩ := HP11.out.kb.cells
    obtain ⟨z110, z111, z112, -⟩ := blk3 HP11.out.kx
    have hzz := HP11.out.sz
    have hz11a : w.heap.size < w11.heap.size := by omega
    have hz11b : w.heap.size + 1 < w11.heap.size := by omega
    have hz11c : w.heap.size + 1 + 1 < w11.heap.size := by omega
    have hz11d : w5.heap.size < w11.heap.size := by omega
    go_wp2_with fail
    go_region_held3 (fun w' => (w'.cell? ⟨w.heap.size, 0, none⟩ = some (.int .i64 r) ∧ w'.cell? ⟨w.heap.size, 1, none⟩ = some (.int .i64 c) ∧ w'.cell? ⟨w.heap.size, 2, none⟩ = some (.slice A n cp) ∧ w'.cell? ⟨w.heap.size + 1, 0, none⟩ = some (.int .i64 m0) ∧ w'.cell? ⟨w.heap.size + 1, 1, none⟩ = some (.int .i64 m1) ∧ w'.cell? ⟨w.heap.size + 1, 2, none⟩ = some (.int .i64 m2) ∧ w'.cell? ⟨w.heap.size + 1, 3, none⟩ = some (.int .i64 m3) ∧ w'.cell? ⟨w.heap.size + 1, 4, none⟩ = some (.int .i64 m4) ∧ w'.cell? ⟨w.heap.size + 1, 5, none⟩ = some (.int .i64 m5) ∧ w'.cell? ⟨w.heap.size + 1, 6, none⟩ = some (.int .i64 m6) ∧ w'.cell? ⟨w.heap.size + 1, 7, none⟩ = some (.int .i64 m7) ∧ w'.cell? ⟨w.heap.size + 1, 8, none⟩ = some (.int .i64 m8) ∧ w'.cell? ⟨w.heap.size + 1 + 1, 0, none⟩ = some (.int .i64 R) ∧ w'.cell? ⟨w.heap.size + 1 + 1, 1, none⟩ = some (.int .i64 C) ∧ w'.cell? ⟨w.heap.size + 1 + 1, 2, none⟩ = some (.int .i64 lim) ∧ w'.cell? ⟨w.heap.size + 1 + 1, 3, none⟩ = some (.int .i64 mar)) ∧ w'.cell? ⟨w5.heap.size, 0, none⟩ = some (.int .i64 r) ∧ w'.cell? ⟨w5.heap.size, 1, none⟩ = some (.int .i64 c) ∧ w'.cell? ⟨w5.heap.size, 2, none⟩ = some (.slice A5 n c5))
      (first | exact ⟨(BxG.set3 HX13.out.kb (by omega)).cells, blk3e HX13.out.kx (by omega)⟩ | exact ⟨HX13.out.kb.cells, blk3s HX13.out.kx⟩ | exact ⟨(BxG.allocS HX13.out.kb (by omega)).cells, blk3a HX13.out.kx (by omega)⟩ | exact ⟨HX12.out.kb.cells, blk3s HX12.out.kx⟩ | exact ⟨(BxG.allocS HX12.out.kb (by omega)).cells, blk3a HX12.out.kx (by omega)⟩ | exact ⟨HP11.out.kb.cells, blk3s HP11.out.kx⟩ | exact ⟨(BxG.drewS HP11.out.kb).cells, blk3s HP11.out.kx⟩ | exact ⟨(BxG.drewS (BxG.allocS HP11.out.kb (by omega))).cells, blk3a HP11.out.kx (by omega)⟩ | go_keep)
      (first
        | (go_at_call 12; with_reducible refine (HT11.out _ (by (repeat (first | (with_reducible assumption) | (with_reducible exact Below.refl _ _) | (with_reducible refine below_drewN' ?_ _) | (with_reducible refine Below.drew ?_) | ((with_reducible refine Below.alloc ?_ ?_ _); rotate_left; focus (first | (simp; done) | (simp; omega) | omega)) | ((with_reducible refine Below.setCell ?_ ?_ _); rotate_left; focus (first | (simp; done) | (simp; omega) | omega)))))).mono ?_; rintro e12 w12 ⟨v12, rfl, ho12, hb12⟩; have hD12 : Below w11.heap.size w11 w12 := below_then (by (repeat (first | (with_reducible assumption) | (with_reducible exact Below.refl _ _) | (with_reducible refine below_drewN' ?_ _) | (with_reducible refine Below.drew ?_) | ((with_reducible refine Below.alloc ?_ ?_ _); rotate_left; focus (first | (simp; done) | (simp; omega) | omega)) | ((with_reducible refine Below.setCell ?_ ?_ _); rotate_left; focus (first | (simp; done) | (simp; omega) | omega))))) (by first | omega | (simp; done) | (simp; omega)) hb12; have hsz12 := hD12.size; have sq12 := hb12.size; (first | simp at sq12 | skip); have HX12 := Lib.hid (HP11.out.below hD12); obtain ⟨A12, c12, rfl, hr12⟩ := ho12.shape; rw [HLN.out] at hr12 ⊢; have HR12 := Lib.hid hr12; clear ho12 hr12; skip)
        | (go_at_call 16; with_reducible refine (eqRaster_same r c A5 A12 n c5 c12 xs _ _ _ (HR11.out.below (by (repeat (first | (with_reducible assumption) | (with_reducible exact Below.refl _ _) | (with_reducible refine below_drewN' ?_ _) | (with_reducible refine Below.drew ?_) | ((with_reducible refine Below.alloc ?_ ?_ _); rotate_left; focus (first | (simp; done) | (simp; omega) | omega)) | ((with_reducible refine Below.setCell ?_ ?_ _); rotate_left; focus (first | (simp; done) | (simp; omega) | omega)))))) (HR12.out.below (by (repeat (first | (with_reducible assumption) | (with_reducible exact Below.refl _ _) | (with_reducible refine below_drewN' ?_ _) | (with_reducible refine Below.drew ?_) | ((with_reducible refine Below.alloc ?_ ?_ _); rotate_left; focus (first | (simp; done) | (simp; omega) | omega)) | ((with_reducible refine Below.setCell ?_ ?_ _); rotate_left; focus (first | (simp; done) | (simp; omega) | omega)))))) (by first | omega | (simp; done) | (simp; omega)) (by first | omega | (simp; done) | (simp; omega)) (by omega)).mono ?_; rintro e13 w13 ⟨rfl, hb13⟩; have hD13 : Below w11.heap.size w11 w13 := below_then (by (repeat (first | (with_reducible assumption) | (with_reducible exact Below.refl _ _) | (with_reducible refine below_drewN' ?_ _) | (with_reducible refine Below.drew ?_) | ((with_reducible refine Below.alloc ?_ ?_ _); rotate_left; focus (first | (simp; done) | (simp; omega) | omega)) | ((with_reducible refine Below.setCell ?_ ?_ _); rotate_left; focus (first | (simp; done) | (simp; omega) | omega))))) (by first | omega | (simp; done) | (simp; omega)) hb13; have hsz13 := hD13.size; have sq13 := hb13.size; (first | simp at sq13 | skip); have HX13 := Lib.hid (HP11.out.below hD13); skip))
    have HO13 := Lib.hid (HO11.out.keep hD13)
    obtain ⟨z130, z131, z132, -⟩ := blk3 HX13.out.kx
    clear q11a q11b q11c q11d q11e q11f q11g q11h q11i q11j q11k q11l q11m q11n q11o q11p z110 z111 z112 hD12 hD13 hsz12 hsz13 hzz hb12 hb13 sq12 sq13 HX12 hz11a hz11b hz11c hz11d HR12 HR11 HT11 HP11 HO11
    go_wp2_with fail
    go_at_call 20
    with_reducible refine (markRaster_any r c _ xs 1 _ _ HO13.out (by rw [HLN.out]; omega) (by omega) (by omega)).mono ?_
    rintro e14 w14 ⟨rfl, ho14, hg14⟩
    rw [HLN.out]
    have HP14 := Lib.hid (HX13.out.rowx hg14 (fun k e => HOL5.out k e))
    clear ho14 hg14 z130 z131 z132 HX13 HO13
    obtain ⟨b0, b1, b2, -⟩ := blk3 HP14.out.kg
    obtain ⟨a0, a1, a2, -⟩ := blk3 HP14.out.ks
    go_wp2_with fail
    go_at_call 19
    with_reducible refine (eqGrid_same GR GN A9 A4 L c9 c4 GL _ _ _ (HP14.out.own.riS HL.out) HP14.out.ra (Nat.le_refl _) (by have := HP14.out.sz; omega) (by omega)).mono ?_
    rintro e15 w15 ⟨rfl, hb15⟩
    have HP15 := Lib.hid (HP14.out.below hb15)
    clear hb15 a0 a1 a2 b0 b1 b2 HP14
    obtain ⟨b0, b1, b2, -⟩ := blk3 HP15.out.kg
    go_wp2_with fail
    go_at_call 21
    with_reducible refine (markGrid_any GR GN _ GL 1 _ _ HP15.out.own (by rw [HL.out]; omega) (by omega) (by omega)).mono ?_
    rintro e16 w16 ⟨rfl, ho16, hg16⟩
    rw [HL.out] at ho16 ⊢
    have HP16 := Lib.hid (HP15.out.mark ho16 hg16)
    clear ho16 hg16 b0 b1 b2 HP15
    obtain ⟨b0, b1, b2, -⟩ := blk3 HP16.out.kg
    go_wp2_with fail
    go_at_call 22
    with_reducible refine (heldGrid_any GR GN _ L 1 _ _ HP16.out.own (by omega) (by omega) (by omega)).mono ?_
    rintro e17 w17 ⟨rfl, hb17⟩
    have HP17 := Lib.hid (HP16.out.below hb17)
    have h3 : ((1 + (L : Int)) != (1 + (L : Int))) = false := by simp
    clear hb17 b0 b1 b2 HP16
    have HT17 := Lib.hid (fun w' (hb : Below w17.heap.size w17 w') => HT.out w' (HP17.out.bw.trans (hb.mono (by have := HP17.out.sz; omega))))
    obtain ⟨q17a, q17b, q17c, q17d, q17e, q17f, q17g, q17h, q17i, q17j, q17k, q17l, q17m, q17n, q17o, q17p⟩ := HP17.out.kb.cells
    have hzz := HP17.out.sz
    have hz17a : w.heap.size < w17.heap.size := by omega
    have hz17b : w.heap.size + 1 < w17.heap.size := by omega
    have hz17c : w.heap.size + 1 + 1 < w17.heap.size := by omega
    go_wp2_with fail
    go_cut [16, 17] (fun sa sb wx => sb = .int .i64 K ∧ ∃ (g : Nat) (Ar : Option Addr) (cr : Nat), sa = .pointer (some ⟨g, 0, none⟩) ∧ Hid (CutR w17 (.cells #[.int .i64 GR, .int .i64 GN, .slice Ar L cr] 41 (0, 0)) (.slice Ar L cr) GL g wx))
    case first =>
      go_region_held3 (fun w' => w'.cell? ⟨w.heap.size, 0, none⟩ = some (.int .i64 r) ∧ w'.cell? ⟨w.heap.size, 1, none⟩ = some (.int .i64 c) ∧ w'.cell? ⟨w.heap.size, 2, none⟩ = some (.slice A n cp) ∧ w'.cell? ⟨w.heap.size + 1, 0, none⟩ = some (.int .i64 m0) ∧ w'.cell? ⟨w.heap.size + 1, 1, none⟩ = some (.int .i64 m1) ∧ w'.cell? ⟨w.heap.size + 1, 2, none⟩ = some (.int .i64 m2) ∧ w'.cell? ⟨w.heap.size + 1, 3, none⟩ = some (.int .i64 m3) ∧ w'.cell? ⟨w.heap.size + 1, 4, none⟩ = some (.int .i64 m4) ∧ w'.cell? ⟨w.heap.size + 1, 5, none⟩ = some (.int .i64 m5) ∧ w'.cell? ⟨w.heap.size + 1, 6, none⟩ = some (.int .i64 m6) ∧ w'.cell? ⟨w.heap.size + 1, 7, none⟩ = some (.int .i64 m7) ∧ w'.cell? ⟨w.heap.size + 1, 8, none⟩ = some (.int .i64 m8) ∧ w'.cell? ⟨w.heap.size + 1 + 1, 0, none⟩ = some (.int .i64 R) ∧ w'.cell? ⟨w.heap.size + 1 + 1, 1, none⟩ = some (.int .i64 C) ∧ w'.cell? ⟨w.heap.size + 1 + 1, 2, none⟩ = some (.int .i64 lim) ∧ w'.cell? ⟨w.heap.size + 1 + 1, 3, none⟩ = some (.int .i64 mar))
        (first | exact (BxG.set3 HX21.out.kb (by omega)).cells | exact HX21.out.kb.cells | exact (BxG.allocS HX21.out.kb (by omega)).cells | exact HX20.out.kb.cells | exact (BxG.allocS HX20.out.kb (by omega)).cells | exact HX19.out.kb.cells | exact (BxG.allocS HX19.out.kb (by omega)).cells | exact HX18.out.kb.cells | exact (BxG.allocS HX18.out.kb (by omega)).cells | exact HP17.out.kb.cells | exact (BxG.drewS HP17.out.kb).cells | exact (BxG.drewS (BxG.allocS HP17.out.kb (by omega))).cells | go_keep)
        (first
          | (go_at_call 12; with_reducible refine (HT17.out _ (by (repeat (first | (with_reducible assumption) | (with_reducible exact Below.refl _ _) | (with_reducible refine below_drewN' ?_ _) | (with_reducible refine Below.drew ?_) | ((with_reducible refine Below.alloc ?_ ?_ _); rotate_left; focus (first | (simp; done) | (simp; omega) | omega)) | ((with_reducible refine Below.setCell ?_ ?_ _); rotate_left; focus (first | (simp; done) | (simp; omega) | omega)))))).mono ?_; rintro e18 w18 ⟨v18, rfl, ho18, hb18⟩; have hD18 : Below w17.heap.size w17 w18 := below_then (by (repeat (first | (with_reducible assumption) | (with_reducible exact Below.refl _ _) | (with_reducible refine below_drewN' ?_ _) | (with_reducible refine Below.drew ?_) | ((with_reducible refine Below.alloc ?_ ?_ _); rotate_left; focus (first | (simp; done) | (simp; omega) | omega)) | ((with_reducible refine Below.setCell ?_ ?_ _); rotate_left; focus (first | (simp; done) | (simp; omega) | omega))))) (by first | omega | (simp; done) | (simp; omega)) hb18; have hsz18 := hD18.size; have sq18 := hb18.size; (first | simp at sq18 | skip); have HX18 := Lib.hid (HP17.out.below hD18); obtain ⟨A18, c18, rfl, hr18⟩ := ho18.shape; rw [HLN.out] at hr18 ⊢; have HR18 := Lib.hid hr18; clear ho18 hr18; skip)
          | (go_at_call 13; with_reducible refine (HTM.out _).mono ?_; rintro e19 w19 ⟨rfl, hb19⟩; have hD19 : Below w17.heap.size w17 w19 := below_then (by (repeat (first | (with_reducible assumption) | (with_reducible exact Below.refl _ _) | (with_reducible refine below_drewN' ?_ _) | (with_reducible refine Below.drew ?_) | ((with_reducible refine Below.alloc ?_ ?_ _); rotate_left; focus (first | (simp; done) | (simp; omega) | omega)) | ((with_reducible refine Below.setCell ?_ ?_ _); rotate_left; focus (first | (simp; done) | (simp; omega) | omega))))) (by first | omega | (simp; done) | (simp; omega)) hb19; have hsz19 := hD19.size; have sq19 := hb19.size; (first | simp at sq19 | skip); have HX19 := Lib.hid (HP17.out.below hD19); have hE19 : Below w18.heap.size w18 w19 := below_then (by (repeat (first | (with_reducible assumption) | (with_reducible exact Below.refl _ _) | (with_reducible refine below_drewN' ?_ _) | (with_reducible refine Below.drew ?_) | ((with_reducible refine Below.alloc ?_ ?_ _); rotate_left; focus (first | (simp; done) | (simp; omega) | omega)) | ((with_reducible refine Below.setCell ?_ ?_ _); rotate_left; focus (first | (simp; done) | (simp; omega) | omega))))) (by first | omega | (simp; done) | (simp; omega)) hb19; have hez19 := hE19.size; skip)
          | (go_at_call 14; with_reducible refine (HTS.out _).mono ?_; rintro e20 w20 ⟨rfl, hb20⟩; have hD20 : Below w17.heap.size w17 w20 := below_then (by (repeat (first | (with_reducible assumption) | (with_reducible exact Below.refl _ _) | (with_reducible refine below_drewN' ?_ _) | (with_reducible refine Below.drew ?_) | ((with_reducible refine Below.alloc ?_ ?_ _); rotate_left; focus (first | (simp; done) | (simp; omega) | omega)) | ((with_reducible refine Below.setCell ?_ ?_ _); rotate_left; focus (first | (simp; done) | (simp; omega) | omega))))) (by first | omega | (simp; done) | (simp; omega)) hb20; have hsz20 := hD20.size; have sq20 := hb20.size; (first | simp at sq20 | skip); have HX20 := Lib.hid (HP17.out.below hD20); have hE20 : Below w18.heap.size w18 w20 := below_then (by (repeat (first | (with_reducible assumption) | (with_reducible exact Below.refl _ _) | (with_reducible refine below_drewN' ?_ _) | (with_reducible refine Below.drew ?_) | ((with_reducible refine Below.alloc ?_ ?_ _); rotate_left; focus (first | (simp; done) | (simp; omega) | omega)) | ((with_reducible refine Below.setCell ?_ ?_ _); rotate_left; focus (first | (simp; done) | (simp; omega) | omega))))) (by first | omega | (simp; done) | (simp; omega)) hb20; have hez20 := hE20.size; skip)
          | (go_at_call 26; with_reducible refine (S2.out _ _ _ _ (HR18.out.below (by (repeat (first | (with_reducible assumption) | (with_reducible exact Below.refl _ _) | (with_reducible refine below_drewN' ?_ _) | (with_reducible refine Below.drew ?_) | ((with_reducible refine Below.alloc ?_ ?_ _); rotate_left; focus (first | (simp; done) | (simp; omega) | omega)) | ((with_reducible refine Below.setCell ?_ ?_ _); rotate_left; focus (first | (simp; done) | (simp; omega) | omega)))))) (by first | omega | (simp; done) | (simp; omega))).mono ?_; rintro e21 w21 ⟨v21, rfl, ho21, hb21⟩; have hD21 : Below w17.heap.size w17 w21 := below_then (by (repeat (first | (with_reducible assumption) | (with_reducible exact Below.refl _ _) | (with_reducible refine below_drewN' ?_ _) | (with_reducible refine Below.drew ?_) | ((with_reducible refine Below.alloc ?_ ?_ _); rotate_left; focus (first | (simp; done) | (simp; omega) | omega)) | ((with_reducible refine Below.setCell ?_ ?_ _); rotate_left; focus (first | (simp; done) | (simp; omega) | omega))))) (by first | omega | (simp; done) | (simp; omega)) hb21; have hsz21 := hD21.size; have sq21 := hb21.size; (first | simp at sq21 | skip); have HX21 := Lib.hid (HP17.out.below hD21); obtain ⟨A21, c21, rfl, hr21⟩ := ho21.shape; rw [HL.out] at ho21 ⊢; have HO21 := Lib.hid ho21; clear ho21 hr21; (first | (refine (fun (hg0 : w21.heap[w17.heap.size]? = some (.cells #[.int .i64 0, .int .i64 0, .slice none 0 0] 41 (0, 0))) => ?_) ?_; rotate_left; (focus ((repeat (first | exact heap_alloc_new _ _ | rw [heap_drew1] | (refine (hb21.block _ ?_).trans ?_; (focus (first | omega | (simp; done) | (simp; omega)))) | (refine (hb20.block _ ?_).trans ?_; (focus (first | omega | (simp; done) | (simp; omega)))) | (refine (hb19.block _ ?_).trans ?_; (focus (first | omega | (simp; done) | (simp; omega)))) | (refine (hb18.block _ ?_).trans ?_; (focus (first | omega | (simp; done) | (simp; omega)))))); all_goals fail)); obtain ⟨gg0, gg1, gg2, ggf⟩ := blk3 hg0) | skip); (first | (refine (fun (hg1 : w21.heap[w18.heap.size]? = some (.cells #[.int .i64 0, .int .i64 0, .slice none 0 0] 41 (0, 0))) => ?_) ?_; rotate_left; (focus ((repeat (first | exact heap_alloc_new _ _ | rw [heap_drew1] | (refine (hb21.block _ ?_).trans ?_; (focus (first | omega | (simp; done) | (simp; omega)))) | (refine (hb20.block _ ?_).trans ?_; (focus (first | omega | (simp; done) | (simp; omega)))) | (refine (hb19.block _ ?_).trans ?_; (focus (first | omega | (simp; done) | (simp; omega)))) | (refine (hb18.block _ ?_).trans ?_; (focus (first | omega | (simp; done) | (simp; omega)))))); all_goals fail)); obtain ⟨gg0, gg1, gg2, ggf⟩ := blk3 hg1) | skip); (first | (refine (fun (hg2 : w21.heap[w19.heap.size]? = some (.cells #[.int .i64 0, .int .i64 0, .slice none 0 0] 41 (0, 0))) => ?_) ?_; rotate_left; (focus ((repeat (first | exact heap_alloc_new _ _ | rw [heap_drew1] | (refine (hb21.block _ ?_).trans ?_; (focus (first | omega | (simp; done) | (simp; omega)))) | (refine (hb20.block _ ?_).trans ?_; (focus (first | omega | (simp; done) | (simp; omega)))) | (refine (hb19.block _ ?_).trans ?_; (focus (first | omega | (simp; done) | (simp; omega)))) | (refine (hb18.block _ ?_).trans ?_; (focus (first | omega | (simp; done) | (simp; omega)))))); all_goals fail)); obtain ⟨gg0, gg1, gg2, ggf⟩ := blk3 hg2) | skip); (first | (refine (fun (hg3 : w21.heap[w20.heap.size]? = some (.cells #[.int .i64 0, .int .i64 0, .slice none 0 0] 41 (0, 0))) => ?_) ?_; rotate_left; (focus ((repeat (first | exact heap_alloc_new _ _ | rw [heap_drew1] | (refine (hb21.block _ ?_).trans ?_; (focus (first | omega | (simp; done) | (simp; omega)))) | (refine (hb20.block _ ?_).trans ?_; (focus (first | omega | (simp; done) | (simp; omega)))) | (refine (hb19.block _ ?_).trans ?_; (focus (first | omega | (simp; done) | (simp; omega)))) | (refine (hb18.block _ ?_).trans ?_; (focus (first | omega | (simp; done) | (simp; omega)))))); all_goals fail)); obtain ⟨gg0, gg1, gg2, ggf⟩ := blk3 hg3) | skip); skip))
      all_goals
          go_wp2_with fail
          go_meet
          case rel =>
            first
              | (refine ⟨rfl, _, _, _, rfl, Lib.hid (CutR.last hD21 HO21.out ?_)⟩ <;> (first | omega | (simp; done) | (simp; omega)))
              | (refine ⟨rfl, _, _, _, rfl, Lib.hid (CutR.early hD21 HO21.out ?_ ?_ ?_ ?_ hg0)⟩ <;> (first | omega | (simp; done) | (simp; omega)))
              | (refine ⟨rfl, _, _, _, rfl, Lib.hid (CutR.early hD21 HO21.out ?_ ?_ ?_ ?_ hg1)⟩ <;> (first | omega | (simp; done) | (simp; omega)))
              | (refine ⟨rfl, _, _, _, rfl, Lib.hid (CutR.early hD21 HO21.out ?_ ?_ ?_ ?_ hg2)⟩ <;> (first | omega | (simp; done) | (simp; omega)))
              | (refine ⟨rfl, _, _, _, rfl, Lib.hid (CutR.early hD21 HO21.out ?_ ?_ ?_ ?_ hg3)⟩ <;> (first | omega | (simp; done) | (simp; omega)))
    obtain ⟨rfl, g21, A21, c21, rfl, HC21⟩ := hcut
    rename World => w22
    have HP22 := Lib.hid (HP17.out.below HC21.out.bw)
    have HR22 := Lib.hid (HC21.out.own.riS HL.out)
    obtain ⟨b0, b1, b2, -⟩ := blk3 HC21.out.blk
    clear HC21 HP17 HT17 q17a q17b q17c q17d q17e q17f q17g q17h q17i q17j q17k q17l q17m q17n q17o q17p
    obtain ⟨a0, a1, a2, -⟩ := blk3 HP22.out.ks
    go_wp2_with fail
    go_at_call 19
    with_reducible refine (eqGrid_same GR GN A21 A4 L c21 c4 GL _ _ _ HR22.out HP22.out.ra (Nat.le_refl _) (by have := HP22.out.sz; omega) (by omega)).mono ?_
    rintro e23 w23 ⟨rfl, hb23⟩
    have HP23 := Lib.hid (HP22.out.below hb23)
    clear hb23 a0 a1 a2 b0 b1 b2 HP22
    obtain ⟨b0, b1, b2, -⟩ := blk3 HP23.out.kg
    go_wp2_with fail
    go_at_call 22
    with_reducible refine (heldGrid_any GR GN _ L 1 _ _ HP23.out.own (by omega) (by omega) (by omega)).mono ?_
    rintro e24 w24 ⟨rfl, hb24⟩
    have HP24 := Lib.hid (HP23.out.below hb24)
    clear hb24 b0 b1 b2 HP23
    go_wp2_with fail
    go_ret
    exact ⟨rfl, HP24.out.bw⟩
  · go_enter Try.func6, Try.ntmps6
    go_wp2_with (go_at_call 10; go_call (szRaster_no _ _ _ _ _ 1048576 _ (by omega) hn2) as e0 w0 ⟨rfl, hb0⟩; obtain ⟨hc0, hf0⟩ := bcell hb0; have hB0 : Below w.heap.size w w0 := (below_then (by first | (go_grown; done) | (repeat (first | (with_reducible assumption) | (with_reducible exact Below.refl _ _) | (with_reducible refine below_drewN' ?_ _) | (with_reducible refine Below.drew ?_) | ((with_reducible refine Below.alloc ?_ ?_ _); rotate_left; focus (first | (simp; done) | (simp; omega) | omega)) | ((with_reducible refine Below.setCell ?_ ?_ _); rotate_left; focus (first | (simp; done) | (simp; omega) | omega))))) (by first | omega | (simp; done) | (simp; omega)) hb0); have hz0a : w.heap.size < w0.heap.size := (by have := hb0.size; first | omega | (simp at this; omega)))
    go_ret
    exact ⟨rfl, by (repeat (first | (with_reducible assumption) | (with_reducible exact Below.refl _ _) | (with_reducible refine below_drewN' ?_ _) | (with_reducible refine Below.drew ?_) | ((with_reducible refine Below.alloc ?_ ?_ _); rotate_left; focus (first | (simp; done) | (simp; omega) | omega)) | ((with_reducible refine Below.setCell ?_ ?_ _); rotate_left; focus (first | (simp; done) | (simp; omega) | omega))))⟩
set_option maxRecDepth 100000 in
theorem lifted_FnExactSampleFive (os : Os) (started : os.Started) (H : Type) (enc : TypeId × Value → H) :
    ReturnsInHanded {} Try.checked os 6 .any (Rows.fnExactSampleFiveSpec.pre6 enc Try.prog Try.f6 Rows.fnExactSampleFiveRow.domain false) (Rows.fnExactSampleFiveSpec.post enc Try.prog Try.f6 false true false false) := by
  refine law_lifted (C := Try.checked) (tb := 4) own started (by kernel_rfl) Try.func6
    (ChangeSpec.witness6 (enc := enc) (C := Try.checked) false ⟨#[], #[.agg #[.int .i64 0, .int .i64 0, .slice none 0 0], .agg #[.int .i64 0, .int .i64 0, .int .i64 0, .int .i64 0, .int .i64 0, .int .i64 0, .int .i64 0, .int .i64 0, .int .i64 0], .agg #[.int .i64 0, .int .i64 0, .int .i64 0, .int .i64 0]], []⟩ 8 (by kernel_rfl) (by kernel_rfl) (by kernel_rfl) (by kernel_rfl))
    laidOut (by kernel_rfl) rfl rfl Try.underlying4 ?_ ?_
  · intro ds hd
    match ds, hd with
    | [e0, e1, e2], _ => rfl
  · intro W base args ds p hval hA hlt hsz
    have hval1 : ∀ (j : Nat) t v, Try.f6.params[j]? = some t → args[j]? = some v → Value.okWide Try.prog W .any base t v := hval
    have hA1 : DataW.TrodAll enc Try.prog W 0 (fun _ => true) true Try.f6.params.toList args.toList ds p := hA
    have hsz1 : (DataW.weightsEach Try.prog Try.f6.params.toList ds).all (· ≤ reachBytes) = true := hsz
    rw [Try.params6] at hval1 hA1 hsz1
    clear hval hA hsz
    obtain ⟨v0, v1, v2, d0, d1, d2, p0, p1, p2, rfl, rfl, rfl, h0, h1, h2⟩ := trodAll_three hA1
    obtain ⟨a, b, A, n, c, xs, rfl, _, _, hr, hn, _⟩ := arg_grid Try.underlying24 (by kernel_rfl) (by kernel_rfl) Try.underlying2 Try.underlying2 Try.underlying22 Try.underlying2 (by kernel_rfl) (hval1 0 24 v0 rfl rfl) h0 (fun x hx => hlt x (by simp [hx]))
    obtain ⟨ms, hml, rfl, _⟩ := ok_agg_ints (n := 9) (e := 2) Try.underlying26 (by kernel_rfl) (by kernel_rfl) Try.underlying2 (hval1 1 26 v1 rfl rfl)
    obtain ⟨ss, hsl, rfl, _⟩ := ok_agg_ints (n := 4) (e := 2) Try.underlying28 (by kernel_rfl) (by kernel_rfl) Try.underlying2 (hval1 2 28 v2 rfl rfl)
    match ms, hml, ss, hsl with
    | [a0, a1, a2, a3, a4, a5, a6, a7, a8], _, [b0, b1, b2, b3], _ => exact lawSampleFive a b A n c xs a0 a1 a2 a3 a4 a5 a6 a7 a8 b0 b1 b2 b3 W hr hn
theorem holds_FnExactSampleFive : Rows.FnExactSampleFiveSaid :=
  OpenClaim.holds_of_wide 6 Try.f6 rfl rfl rfl rfl rfl rfl rfl ⟨rfl, rfl, rfl, rfl, rfl⟩ rfl rfl rfl rfl rfl (by kernel_rfl) Try.func6 (by kernel_rfl)
    (of_decide_eq_true (by kernel_rfl)) (by unfold Func.isWrapper; first | (rw [if_pos (by decide +kernel)]; kernel_rfl) | (rw [if_neg (by decide +kernel)]; exact ⟨rfl, rfl⟩))
    (fun os started H enc _ => lifted_FnExactSampleFive os started H enc)

end Go.Proofs.Ytflpllmbpfdnjaa
