/-
  Contracts of chapter 13: the layout of a symbol, the room of its data, its errors.
-/
import Derived.Test.YtbgcbjfimjfbpaaC13M
namespace Go.Proofs.Ytbgcbjfimjfbpaa
set_option linter.unusedSimpArgs false
open Go.RowKit

theorem lev_facts {level : Int} {n2 : Nat} (h : inR level 0 ((n2 : Int) - 1) = true) : ∃ j : Nat, level = j ∧ j < n2 := by
  have b := inR_true h
  obtain ⟨j, rfl⟩ := Int.eq_ofNat_of_zero_le (show 0 ≤ level by omega)
  exact ⟨j, rfl, by omega⟩
theorem fam_lev {s : ByteArray} {kind p k g col : Int} {n1 n2 : Nat} {sz lv : List Int} (h : famB s kind p k g col n1 sz n2 lv = true) {j : Nat} (hj : j < lv.length) : 1 ≤ nth lv j ∧ nth lv j ≤ 80 := by
  unfold famB at h
  simp only [Bool.and_eq_true] at h
  exact risB_in h.2.2.2.1 hj
theorem loC_no {fam has lev lay : Bool} (h : loB fam has lev lay = false) : loC fam has lev lay = 1 ∨ loC fam has lev lay = 2 ∨ loC fam has lev lay = 3 := by
  cases fam <;> cases has <;> cases lev <;> cases lay <;> simp_all [loB, loC]
theorem loC_yes {fam has lev lay : Bool} (h : loB fam has lev lay = true) : loC fam has lev lay = 0 ∧ fam = true ∧ lay = true := by
  cases fam <;> cases has <;> cases lev <;> cases lay <;> simp_all [loB, loC]
theorem lay_field {kind p k g col size l : Int} (h : layOf kind p k g col size l = true) : fieldB p k g = true := by
  obtain ⟨_, _, _, _, _, _, _, _, _, _, _, _, _, hf⟩ := layB_true h
  exact hf
theorem widV_bd {p k g : Int} (h : fieldB p k g = true) : 0 ≤ widV (fsize p k) ∧ widV (fsize p k) ≤ 10 := by
  obtain ⟨S, hS, h3, h4⟩ := fieldB_size h
  rw [hS]
  unfold widV
  rw [Int.toNat_natCast]
  have h1 : Nat.log2 S < 10 := (Nat.log2_lt (by omega)).2 (by omega)
  omega
theorem lay_room {kind p k g col size l : Int} (h : layOf kind p k g col size l = true) (hf : fieldB p k g = true) :
    IntKind.i64.wrap (layDat kind p k col size l * widV (fsize p k)) = layDat kind p k col size l * widV (fsize p k) ∧ (0 ≤ layDat kind p k col size l ∧ layDat kind p k col size l ≤ 1500) ∧ (0 ≤ widV (fsize p k) ∧ widV (fsize p k) ≤ 10) := by
  obtain ⟨D, C, H, hd, hc, hh, h1, h2, h3, h4, h5, h6, h7, _⟩ := layB_true h
  have hw := widV_bd hf
  rw [hd]
  have hm := mul_bd (show (0 : Int) ≤ D by omega) (show (D : Int) ≤ 1500 by omega) hw.1 hw.2
  exact ⟨wr64 (by omega), by omega, hw⟩
set_option maxHeartbeats 8000000 in
theorem LayoutOf_any (s : ByteArray) (kind p k g col : Int) (A1 A2 : Option Addr) (n1 c1 n2 c2 : Nat) (sz lv : List Int) (size level : Int) (w : World) (B : Nat) (hF : FamOk w B s A1 n1 sz A2 n2 lv) (hB : B ≤ w.heap.size) :
    Calls Try.prog 14 #[.agg #[.string s, .int .i64 kind, .int .i64 p, .int .i64 k, .int .i64 g, .slice A1 n1 c1, .int .i64 col, .slice A2 n2 c2], .int .i64 size, .int .i64 level] w fun e w' => e = .returned (.tuple #[.agg #[.int .i64 (loI (loB (famB s kind p k g col n1 sz n2 lv) (hasB size sz) (inR level 0 ((n2 : Int) - 1)) (layOf kind p k g col size (nth lv level.toNat))) p), .int .i64 (loI (loB (famB s kind p k g col n1 sz n2 lv) (hasB size sz) (inR level 0 ((n2 : Int) - 1)) (layOf kind p k g col size (nth lv level.toNat))) k), .int .i64 (loI (loB (famB s kind p k g col n1 sz n2 lv) (hasB size sz) (inR level 0 ((n2 : Int) - 1)) (layOf kind p k g col size (nth lv level.toNat))) g), .int .i64 (loI (loB (famB s kind p k g col n1 sz n2 lv) (hasB size sz) (inR level 0 ((n2 : Int) - 1)) (layOf kind p k g col size (nth lv level.toNat))) (layDat kind p k col size (nth lv level.toNat))), .int .i64 (loI (loB (famB s kind p k g col n1 sz n2 lv) (hasB size sz) (inR level 0 ((n2 : Int) - 1)) (layOf kind p k g col size (nth lv level.toNat))) (layChk kind p k col size (nth lv level.toNat) : Nat)), .int .i64 (loI (loB (famB s kind p k g col n1 sz n2 lv) (hasB size sz) (inR level 0 ((n2 : Int) - 1)) (layOf kind p k g col size (nth lv level.toNat))) (layCnt kind p k col size : Nat))], .int .i64 (loC (famB s kind p k g col n1 sz n2 lv) (hasB size sz) (inR level 0 ((n2 : Int) - 1)) (layOf kind p k g col size (nth lv level.toNat)))]) ∧ Below w.heap.size w w' := by
  have HI := Lib.hid (fun (w' : World) (hb : Below w.heap.size w w') => IsFamily_any s kind p k g col A1 A2 n1 c1 n2 c2 sz lv w' w.heap.size ((hF.more hB).below hb) hb.size)
  have HS := Lib.hid (fun (w' : World) (hb : Below w.heap.size w w') => hasSize_any s kind p k g col A1 A2 n1 c1 n2 c2 sz lv size w' w.heap.size ((hF.more hB).below hb) hb.size)
  have HV := Lib.hid (fun w => hasLevel_any s kind p k g col A1 A2 n1 c1 n2 c2 sz lv level w hF.l2)
  have hn2 := hF.l2
  cases hfam : famB s kind p k g col n1 sz n2 lv
  · rw [hfam] at HI
    clear hF hfam
    generalize hasB size sz = has at *
    generalize inR level 0 ((n2 : Int) - 1) = lev at *
    generalize layOf kind p k g col size (nth lv level.toNat) = lay at *
    generalize layDat kind p k col size (nth lv level.toNat) = VD at *
    generalize ((layChk kind p k col size (nth lv level.toNat) : Nat) : Int) = VH at *
    generalize ((layCnt kind p k col size : Nat) : Int) = VC at *
    go_enter Try.func14, Try.ntmps14
    go_wp2_with fail
    (go_at_call 19; refine (HI.out _ (by (repeat (first | (with_reducible assumption) | (with_reducible exact Below.refl _ _) | (with_reducible refine below_drewN' ?_ _) | (with_reducible refine Below.drew ?_) | ((with_reducible refine Below.alloc ?_ ?_ _); rotate_left; focus (first | (simp; done) | (simp; omega) | omega)) | ((with_reducible refine Below.setCell ?_ ?_ _); rotate_left; focus (first | (simp; done) | (simp; omega) | omega)))))).mono ?_; rintro e1 w1 ⟨rfl, hb1⟩; obtain ⟨hc1, hf1⟩ := bcell hb1; have hB1 : Below w.heap.size w w1 := (below_then (by first | (go_grown; done) | (repeat (first | (with_reducible assumption) | (with_reducible exact Below.refl _ _) | (with_reducible refine below_drewN' ?_ _) | (with_reducible refine Below.drew ?_) | ((with_reducible refine Below.alloc ?_ ?_ _); rotate_left; focus (first | (simp; done) | (simp; omega) | omega)) | ((with_reducible refine Below.setCell ?_ ?_ _); rotate_left; focus (first | (simp; done) | (simp; omega) | omega))))) (by first | omega | (simp; done) | (simp; omega)) hb1); have hz1a : w.heap.size < w1.heap.size := (by have := hb1.size; first | omega | (simp at this; omega)); have hz1b : w.heap.size + 1 < w1.heap.size := (by have := hb1.size; first | omega | (simp at this; omega)))
    have hh1 := blk_below (blk_alloc (heap_alloc_new w (.cells #[.string s, .int .i64 kind, .int .i64 p, .int .i64 k, .int .i64 g, .slice A1 n1 c1, .int .i64 col, .slice A2 n2 c2] 34)) (by simp)) hb1 (by simp; omega)
    have hr1 : w1.heap[w.heap.size + 1]? = some (.cells #[.int .i64 0, .int .i64 0, .int .i64 0, .int .i64 0, .int .i64 0, .int .i64 0] 30 (0, 0)) := by
      refine blk_below ?_ hb1 (by first | (simp; done) | (simp; omega))
      (repeat (first | (with_reducible exact heap_alloc_new _ _) | (rw [heap_drew1]) | (rw [heap_drewN1]) | (rw [Below.heap_setCell _ _ _ _ (by first | omega | (simp; done) | (simp; omega))]) | (rw [Below.heap_alloc _ _ _ (by first | omega | (simp; done) | (simp; omega))]) | (exact heap_alloc_at (by first | omega | (simp; done) | (simp; omega)))))
    obtain ⟨y0, y1, y2, y3, y4, y5, y6, y7, -⟩ := blk8 hh1
    obtain ⟨z0, z1, z2, z3, z4, z5, zf⟩ := blk6 hr1
    clear hc1 hf1
    go_wp2_with fail
    obtain ⟨s0, s1, s2, s3, s4, s5, -⟩ := blk6 (res6 hr1 (.int .i64 0) (.int .i64 0) (.int .i64 0) (.int .i64 0) (.int .i64 0) (.int .i64 0))
    (try simp only [Exit.inBlock, Exit.then]); refine bodyPost_ret (by simp [results, Try.results14, go_sem, s0, s1, s2, s3, s4, s5]; try rfl) rfl ?_
    exact ⟨by first | rfl | simp [loI, loB, loC], by (repeat (first | (with_reducible assumption) | (with_reducible exact Below.refl _ _) | (with_reducible refine below_drewN' ?_ _) | (with_reducible refine Below.drew ?_) | ((with_reducible refine Below.alloc ?_ ?_ _); rotate_left; focus (first | (simp; done) | (simp; omega) | omega)) | ((with_reducible refine Below.setCell ?_ ?_ _); rotate_left; focus (first | (simp; done) | (simp; omega) | omega))))⟩
  cases hhas : hasB size sz
  · rw [hfam] at HI
    rw [hhas] at HS
    clear hF hfam hhas
    generalize inR level 0 ((n2 : Int) - 1) = lev at *
    generalize layOf kind p k g col size (nth lv level.toNat) = lay at *
    generalize layDat kind p k col size (nth lv level.toNat) = VD at *
    generalize ((layChk kind p k col size (nth lv level.toNat) : Nat) : Int) = VH at *
    generalize ((layCnt kind p k col size : Nat) : Int) = VC at *
    go_enter Try.func14, Try.ntmps14
    go_wp2_with fail
    (go_at_call 19; refine (HI.out _ (by (repeat (first | (with_reducible assumption) | (with_reducible exact Below.refl _ _) | (with_reducible refine below_drewN' ?_ _) | (with_reducible refine Below.drew ?_) | ((with_reducible refine Below.alloc ?_ ?_ _); rotate_left; focus (first | (simp; done) | (simp; omega) | omega)) | ((with_reducible refine Below.setCell ?_ ?_ _); rotate_left; focus (first | (simp; done) | (simp; omega) | omega)))))).mono ?_; rintro e1 w1 ⟨rfl, hb1⟩; obtain ⟨hc1, hf1⟩ := bcell hb1; have hB1 : Below w.heap.size w w1 := (below_then (by first | (go_grown; done) | (repeat (first | (with_reducible assumption) | (with_reducible exact Below.refl _ _) | (with_reducible refine below_drewN' ?_ _) | (with_reducible refine Below.drew ?_) | ((with_reducible refine Below.alloc ?_ ?_ _); rotate_left; focus (first | (simp; done) | (simp; omega) | omega)) | ((with_reducible refine Below.setCell ?_ ?_ _); rotate_left; focus (first | (simp; done) | (simp; omega) | omega))))) (by first | omega | (simp; done) | (simp; omega)) hb1); have hz1a : w.heap.size < w1.heap.size := (by have := hb1.size; first | omega | (simp at this; omega)); have hz1b : w.heap.size + 1 < w1.heap.size := (by have := hb1.size; first | omega | (simp at this; omega)))
    have hh1 := blk_below (blk_alloc (heap_alloc_new w (.cells #[.string s, .int .i64 kind, .int .i64 p, .int .i64 k, .int .i64 g, .slice A1 n1 c1, .int .i64 col, .slice A2 n2 c2] 34)) (by simp)) hb1 (by simp; omega)
    have hr1 : w1.heap[w.heap.size + 1]? = some (.cells #[.int .i64 0, .int .i64 0, .int .i64 0, .int .i64 0, .int .i64 0, .int .i64 0] 30 (0, 0)) := by
      refine blk_below ?_ hb1 (by first | (simp; done) | (simp; omega))
      (repeat (first | (with_reducible exact heap_alloc_new _ _) | (rw [heap_drew1]) | (rw [heap_drewN1]) | (rw [Below.heap_setCell _ _ _ _ (by first | omega | (simp; done) | (simp; omega))]) | (rw [Below.heap_alloc _ _ _ (by first | omega | (simp; done) | (simp; omega))]) | (exact heap_alloc_at (by first | omega | (simp; done) | (simp; omega)))))
    obtain ⟨y0, y1, y2, y3, y4, y5, y6, y7, -⟩ := blk8 hh1
    obtain ⟨z0, z1, z2, z3, z4, z5, zf⟩ := blk6 hr1
    clear hc1 hf1
    go_wp2_with fail
    (go_at_call 51; refine (HS.out _ (by (repeat (first | (with_reducible assumption) | (with_reducible exact Below.refl _ _) | (with_reducible refine below_drewN' ?_ _) | (with_reducible refine Below.drew ?_) | ((with_reducible refine Below.alloc ?_ ?_ _); rotate_left; focus (first | (simp; done) | (simp; omega) | omega)) | ((with_reducible refine Below.setCell ?_ ?_ _); rotate_left; focus (first | (simp; done) | (simp; omega) | omega)))))).mono ?_; rintro e2 w2 ⟨rfl, hb2⟩; obtain ⟨hc2, hf2⟩ := bcell hb2; have hB2 : Below w.heap.size w w2 := (below_then (by first | (go_grown; done) | (repeat (first | (with_reducible assumption) | (with_reducible exact Below.refl _ _) | (with_reducible refine below_drewN' ?_ _) | (with_reducible refine Below.drew ?_) | ((with_reducible refine Below.alloc ?_ ?_ _); rotate_left; focus (first | (simp; done) | (simp; omega) | omega)) | ((with_reducible refine Below.setCell ?_ ?_ _); rotate_left; focus (first | (simp; done) | (simp; omega) | omega))))) (by first | omega | (simp; done) | (simp; omega)) hb2); have hz2a : w.heap.size < w2.heap.size := (by have := hb2.size; first | omega | (simp at this; omega)); have hz2b : w.heap.size + 1 < w2.heap.size := (by have := hb2.size; first | omega | (simp at this; omega)))
    clear y0 y1 y2 y3 y4 y5 y6 y7 z0 z1 z2 z3 z4 z5 zf
    have hh2 := blk_below hh1 hb2 hz1a
    have hr2 := blk_below hr1 hb2 hz1b
    obtain ⟨y0, y1, y2, y3, y4, y5, y6, y7, -⟩ := blk8 hh2
    obtain ⟨z0, z1, z2, z3, z4, z5, zf⟩ := blk6 hr2
    clear hc2 hf2 hh1 hr1
    go_wp2_with fail
    obtain ⟨s0, s1, s2, s3, s4, s5, -⟩ := blk6 (res6 hr2 (.int .i64 0) (.int .i64 0) (.int .i64 0) (.int .i64 0) (.int .i64 0) (.int .i64 0))
    (try simp only [Exit.inBlock, Exit.then]); refine bodyPost_ret (by simp [results, Try.results14, go_sem, s0, s1, s2, s3, s4, s5]; try rfl) rfl ?_
    exact ⟨by first | rfl | simp [loI, loB, loC], by (repeat (first | (with_reducible assumption) | (with_reducible exact Below.refl _ _) | (with_reducible refine below_drewN' ?_ _) | (with_reducible refine Below.drew ?_) | ((with_reducible refine Below.alloc ?_ ?_ _); rotate_left; focus (first | (simp; done) | (simp; omega) | omega)) | ((with_reducible refine Below.setCell ?_ ?_ _); rotate_left; focus (first | (simp; done) | (simp; omega) | omega))))⟩
  cases hlev : inR level 0 ((n2 : Int) - 1)
  · rw [hfam] at HI
    rw [hhas] at HS
    rw [hlev] at HV
    clear hF hfam hhas hlev
    generalize layOf kind p k g col size (nth lv level.toNat) = lay at *
    generalize layDat kind p k col size (nth lv level.toNat) = VD at *
    generalize ((layChk kind p k col size (nth lv level.toNat) : Nat) : Int) = VH at *
    generalize ((layCnt kind p k col size : Nat) : Int) = VC at *
    go_enter Try.func14, Try.ntmps14
    go_wp2_with fail
    (go_at_call 19; refine (HI.out _ (by (repeat (first | (with_reducible assumption) | (with_reducible exact Below.refl _ _) | (with_reducible refine below_drewN' ?_ _) | (with_reducible refine Below.drew ?_) | ((with_reducible refine Below.alloc ?_ ?_ _); rotate_left; focus (first | (simp; done) | (simp; omega) | omega)) | ((with_reducible refine Below.setCell ?_ ?_ _); rotate_left; focus (first | (simp; done) | (simp; omega) | omega)))))).mono ?_; rintro e1 w1 ⟨rfl, hb1⟩; obtain ⟨hc1, hf1⟩ := bcell hb1; have hB1 : Below w.heap.size w w1 := (below_then (by first | (go_grown; done) | (repeat (first | (with_reducible assumption) | (with_reducible exact Below.refl _ _) | (with_reducible refine below_drewN' ?_ _) | (with_reducible refine Below.drew ?_) | ((with_reducible refine Below.alloc ?_ ?_ _); rotate_left; focus (first | (simp; done) | (simp; omega) | omega)) | ((with_reducible refine Below.setCell ?_ ?_ _); rotate_left; focus (first | (simp; done) | (simp; omega) | omega))))) (by first | omega | (simp; done) | (simp; omega)) hb1); have hz1a : w.heap.size < w1.heap.size := (by have := hb1.size; first | omega | (simp at this; omega)); have hz1b : w.heap.size + 1 < w1.heap.size := (by have := hb1.size; first | omega | (simp at this; omega)))
    have hh1 := blk_below (blk_alloc (heap_alloc_new w (.cells #[.string s, .int .i64 kind, .int .i64 p, .int .i64 k, .int .i64 g, .slice A1 n1 c1, .int .i64 col, .slice A2 n2 c2] 34)) (by simp)) hb1 (by simp; omega)
    have hr1 : w1.heap[w.heap.size + 1]? = some (.cells #[.int .i64 0, .int .i64 0, .int .i64 0, .int .i64 0, .int .i64 0, .int .i64 0] 30 (0, 0)) := by
      refine blk_below ?_ hb1 (by first | (simp; done) | (simp; omega))
      (repeat (first | (with_reducible exact heap_alloc_new _ _) | (rw [heap_drew1]) | (rw [heap_drewN1]) | (rw [Below.heap_setCell _ _ _ _ (by first | omega | (simp; done) | (simp; omega))]) | (rw [Below.heap_alloc _ _ _ (by first | omega | (simp; done) | (simp; omega))]) | (exact heap_alloc_at (by first | omega | (simp; done) | (simp; omega)))))
    obtain ⟨y0, y1, y2, y3, y4, y5, y6, y7, -⟩ := blk8 hh1
    obtain ⟨z0, z1, z2, z3, z4, z5, zf⟩ := blk6 hr1
    clear hc1 hf1
    go_wp2_with fail
    (go_at_call 51; refine (HS.out _ (by (repeat (first | (with_reducible assumption) | (with_reducible exact Below.refl _ _) | (with_reducible refine below_drewN' ?_ _) | (with_reducible refine Below.drew ?_) | ((with_reducible refine Below.alloc ?_ ?_ _); rotate_left; focus (first | (simp; done) | (simp; omega) | omega)) | ((with_reducible refine Below.setCell ?_ ?_ _); rotate_left; focus (first | (simp; done) | (simp; omega) | omega)))))).mono ?_; rintro e2 w2 ⟨rfl, hb2⟩; obtain ⟨hc2, hf2⟩ := bcell hb2; have hB2 : Below w.heap.size w w2 := (below_then (by first | (go_grown; done) | (repeat (first | (with_reducible assumption) | (with_reducible exact Below.refl _ _) | (with_reducible refine below_drewN' ?_ _) | (with_reducible refine Below.drew ?_) | ((with_reducible refine Below.alloc ?_ ?_ _); rotate_left; focus (first | (simp; done) | (simp; omega) | omega)) | ((with_reducible refine Below.setCell ?_ ?_ _); rotate_left; focus (first | (simp; done) | (simp; omega) | omega))))) (by first | omega | (simp; done) | (simp; omega)) hb2); have hz2a : w.heap.size < w2.heap.size := (by have := hb2.size; first | omega | (simp at this; omega)); have hz2b : w.heap.size + 1 < w2.heap.size := (by have := hb2.size; first | omega | (simp at this; omega)))
    clear y0 y1 y2 y3 y4 y5 y6 y7 z0 z1 z2 z3 z4 z5 zf
    have hh2 := blk_below hh1 hb2 hz1a
    have hr2 := blk_below hr1 hb2 hz1b
    obtain ⟨y0, y1, y2, y3, y4, y5, y6, y7, -⟩ := blk8 hh2
    obtain ⟨z0, z1, z2, z3, z4, z5, zf⟩ := blk6 hr2
    clear hc2 hf2 hh1 hr1
    go_wp2_with fail
    (go_at_call 52; with_reducible refine (HV.out _).mono ?_; rintro e3 w3 ⟨rfl, hb3⟩; obtain ⟨hc3, hf3⟩ := bcell hb3; have hB3 : Below w.heap.size w w3 := (below_then (by first | (go_grown; done) | (repeat (first | (with_reducible assumption) | (with_reducible exact Below.refl _ _) | (with_reducible refine below_drewN' ?_ _) | (with_reducible refine Below.drew ?_) | ((with_reducible refine Below.alloc ?_ ?_ _); rotate_left; focus (first | (simp; done) | (simp; omega) | omega)) | ((with_reducible refine Below.setCell ?_ ?_ _); rotate_left; focus (first | (simp; done) | (simp; omega) | omega))))) (by first | omega | (simp; done) | (simp; omega)) hb3); have hz3a : w.heap.size < w3.heap.size := (by have := hb3.size; first | omega | (simp at this; omega)); have hz3b : w.heap.size + 1 < w3.heap.size := (by have := hb3.size; first | omega | (simp at this; omega)))
    clear y0 y1 y2 y3 y4 y5 y6 y7 z0 z1 z2 z3 z4 z5 zf
    have hh3 := blk_below hh2 hb3 hz2a
    have hr3 := blk_below hr2 hb3 hz2b
    obtain ⟨y0, y1, y2, y3, y4, y5, y6, y7, -⟩ := blk8 hh3
    obtain ⟨z0, z1, z2, z3, z4, z5, zf⟩ := blk6 hr3
    clear hc3 hf3 hh2 hr2
    go_wp2_with fail
    obtain ⟨s0, s1, s2, s3, s4, s5, -⟩ := blk6 (res6 hr3 (.int .i64 0) (.int .i64 0) (.int .i64 0) (.int .i64 0) (.int .i64 0) (.int .i64 0))
    (try simp only [Exit.inBlock, Exit.then]); refine bodyPost_ret (by simp [results, Try.results14, go_sem, s0, s1, s2, s3, s4, s5]; try rfl) rfl ?_
    exact ⟨by first | rfl | simp [loI, loB, loC], by (repeat (first | (with_reducible assumption) | (with_reducible exact Below.refl _ _) | (with_reducible refine below_drewN' ?_ _) | (with_reducible refine Below.drew ?_) | ((with_reducible refine Below.alloc ?_ ?_ _); rotate_left; focus (first | (simp; done) | (simp; omega) | omega)) | ((with_reducible refine Below.setCell ?_ ?_ _); rotate_left; focus (first | (simp; done) | (simp; omega) | omega))))⟩
  · rw [hfam] at HI
    rw [hhas] at HS
    rw [hlev] at HV
    obtain ⟨j, rfl, hj⟩ := lev_facts hlev
    have hll := fam_lev hfam (j := j) (by have := hF.h2.len; omega)
    have HY := Lib.hid (fun (w' : World) (hb : Below w.heap.size w w') => layout_any s kind p k g col A1 A2 n1 c1 n2 c2 sz lv size j w' w.heap.size (fam_size hfam hhas) ((hF.h2.more hB).below hb) hb.size hj hll.1 hll.2)
    rw [Int.toNat_natCast]
    have HL := Lib.hid (fun w => IsLayout_any p k g (layDat kind p k col size (nth lv j)) (layChk kind p k col size (nth lv j) : Nat) (layCnt kind p k col size : Nat) w)
    cases hlay : layOf kind p k g col size (nth lv j)
    · unfold layOf at hlay
      rw [hlay] at HL
      clear hF hfam hhas hlev hlay hll
      generalize layDat kind p k col size (nth lv j) = VD at *
      generalize ((layChk kind p k col size (nth lv j) : Nat) : Int) = VH at *
      generalize ((layCnt kind p k col size : Nat) : Int) = VC at *
      go_enter Try.func14, Try.ntmps14
      go_wp2_with fail
      (go_at_call 19; refine (HI.out _ (by (repeat (first | (with_reducible assumption) | (with_reducible exact Below.refl _ _) | (with_reducible refine below_drewN' ?_ _) | (with_reducible refine Below.drew ?_) | ((with_reducible refine Below.alloc ?_ ?_ _); rotate_left; focus (first | (simp; done) | (simp; omega) | omega)) | ((with_reducible refine Below.setCell ?_ ?_ _); rotate_left; focus (first | (simp; done) | (simp; omega) | omega)))))).mono ?_; rintro e1 w1 ⟨rfl, hb1⟩; obtain ⟨hc1, hf1⟩ := bcell hb1; have hB1 : Below w.heap.size w w1 := (below_then (by first | (go_grown; done) | (repeat (first | (with_reducible assumption) | (with_reducible exact Below.refl _ _) | (with_reducible refine below_drewN' ?_ _) | (with_reducible refine Below.drew ?_) | ((with_reducible refine Below.alloc ?_ ?_ _); rotate_left; focus (first | (simp; done) | (simp; omega) | omega)) | ((with_reducible refine Below.setCell ?_ ?_ _); rotate_left; focus (first | (simp; done) | (simp; omega) | omega))))) (by first | omega | (simp; done) | (simp; omega)) hb1); have hz1a : w.heap.size < w1.heap.size := (by have := hb1.size; first | omega | (simp at this; omega)); have hz1b : w.heap.size + 1 < w1.heap.size := (by have := hb1.size; first | omega | (simp at this; omega)))
      have hh1 := blk_below (blk_alloc (heap_alloc_new w (.cells #[.string s, .int .i64 kind, .int .i64 p, .int .i64 k, .int .i64 g, .slice A1 n1 c1, .int .i64 col, .slice A2 n2 c2] 34)) (by simp)) hb1 (by simp; omega)
      have hr1 : w1.heap[w.heap.size + 1]? = some (.cells #[.int .i64 0, .int .i64 0, .int .i64 0, .int .i64 0, .int .i64 0, .int .i64 0] 30 (0, 0)) := by
        refine blk_below ?_ hb1 (by first | (simp; done) | (simp; omega))
        (repeat (first | (with_reducible exact heap_alloc_new _ _) | (rw [heap_drew1]) | (rw [heap_drewN1]) | (rw [Below.heap_setCell _ _ _ _ (by first | omega | (simp; done) | (simp; omega))]) | (rw [Below.heap_alloc _ _ _ (by first | omega | (simp; done) | (simp; omega))]) | (exact heap_alloc_at (by first | omega | (simp; done) | (simp; omega)))))
      obtain ⟨y0, y1, y2, y3, y4, y5, y6, y7, -⟩ := blk8 hh1
      obtain ⟨z0, z1, z2, z3, z4, z5, zf⟩ := blk6 hr1
      clear hc1 hf1
      go_wp2_with fail
      (go_at_call 51; refine (HS.out _ (by (repeat (first | (with_reducible assumption) | (with_reducible exact Below.refl _ _) | (with_reducible refine below_drewN' ?_ _) | (with_reducible refine Below.drew ?_) | ((with_reducible refine Below.alloc ?_ ?_ _); rotate_left; focus (first | (simp; done) | (simp; omega) | omega)) | ((with_reducible refine Below.setCell ?_ ?_ _); rotate_left; focus (first | (simp; done) | (simp; omega) | omega)))))).mono ?_; rintro e2 w2 ⟨rfl, hb2⟩; obtain ⟨hc2, hf2⟩ := bcell hb2; have hB2 : Below w.heap.size w w2 := (below_then (by first | (go_grown; done) | (repeat (first | (with_reducible assumption) | (with_reducible exact Below.refl _ _) | (with_reducible refine below_drewN' ?_ _) | (with_reducible refine Below.drew ?_) | ((with_reducible refine Below.alloc ?_ ?_ _); rotate_left; focus (first | (simp; done) | (simp; omega) | omega)) | ((with_reducible refine Below.setCell ?_ ?_ _); rotate_left; focus (first | (simp; done) | (simp; omega) | omega))))) (by first | omega | (simp; done) | (simp; omega)) hb2); have hz2a : w.heap.size < w2.heap.size := (by have := hb2.size; first | omega | (simp at this; omega)); have hz2b : w.heap.size + 1 < w2.heap.size := (by have := hb2.size; first | omega | (simp at this; omega)))
      clear y0 y1 y2 y3 y4 y5 y6 y7 z0 z1 z2 z3 z4 z5 zf
      have hh2 := blk_below hh1 hb2 hz1a
      have hr2 := blk_below hr1 hb2 hz1b
      obtain ⟨y0, y1, y2, y3, y4, y5, y6, y7, -⟩ := blk8 hh2
      obtain ⟨z0, z1, z2, z3, z4, z5, zf⟩ := blk6 hr2
      clear hc2 hf2 hh1 hr1
      go_wp2_with fail
      (go_at_call 52; with_reducible refine (HV.out _).mono ?_; rintro e3 w3 ⟨rfl, hb3⟩; obtain ⟨hc3, hf3⟩ := bcell hb3; have hB3 : Below w.heap.size w w3 := (below_then (by first | (go_grown; done) | (repeat (first | (with_reducible assumption) | (with_reducible exact Below.refl _ _) | (with_reducible refine below_drewN' ?_ _) | (with_reducible refine Below.drew ?_) | ((with_reducible refine Below.alloc ?_ ?_ _); rotate_left; focus (first | (simp; done) | (simp; omega) | omega)) | ((with_reducible refine Below.setCell ?_ ?_ _); rotate_left; focus (first | (simp; done) | (simp; omega) | omega))))) (by first | omega | (simp; done) | (simp; omega)) hb3); have hz3a : w.heap.size < w3.heap.size := (by have := hb3.size; first | omega | (simp at this; omega)); have hz3b : w.heap.size + 1 < w3.heap.size := (by have := hb3.size; first | omega | (simp at this; omega)))
      clear y0 y1 y2 y3 y4 y5 y6 y7 z0 z1 z2 z3 z4 z5 zf
      have hh3 := blk_below hh2 hb3 hz2a
      have hr3 := blk_below hr2 hb3 hz2b
      obtain ⟨y0, y1, y2, y3, y4, y5, y6, y7, -⟩ := blk8 hh3
      obtain ⟨z0, z1, z2, z3, z4, z5, zf⟩ := blk6 hr3
      clear hc3 hf3 hh2 hr2
      go_wp2_with fail
      (go_at_call 53; refine (HY.out _ (by (repeat (first | (with_reducible assumption) | (with_reducible exact Below.refl _ _) | (with_reducible refine below_drewN' ?_ _) | (with_reducible refine Below.drew ?_) | ((with_reducible refine Below.alloc ?_ ?_ _); rotate_left; focus (first | (simp; done) | (simp; omega) | omega)) | ((with_reducible refine Below.setCell ?_ ?_ _); rotate_left; focus (first | (simp; done) | (simp; omega) | omega)))))).mono ?_; rintro e4 w4 ⟨rfl, hb4⟩; obtain ⟨hc4, hf4⟩ := bcell hb4; have hB4 : Below w.heap.size w w4 := (below_then (by first | (go_grown; done) | (repeat (first | (with_reducible assumption) | (with_reducible exact Below.refl _ _) | (with_reducible refine below_drewN' ?_ _) | (with_reducible refine Below.drew ?_) | ((with_reducible refine Below.alloc ?_ ?_ _); rotate_left; focus (first | (simp; done) | (simp; omega) | omega)) | ((with_reducible refine Below.setCell ?_ ?_ _); rotate_left; focus (first | (simp; done) | (simp; omega) | omega))))) (by first | omega | (simp; done) | (simp; omega)) hb4); have hz4a : w.heap.size < w4.heap.size := (by have := hb4.size; first | omega | (simp at this; omega)); have hz4b : w.heap.size + 1 < w4.heap.size := (by have := hb4.size; first | omega | (simp at this; omega)))
      clear y0 y1 y2 y3 y4 y5 y6 y7 z0 z1 z2 z3 z4 z5 zf
      have hh4 := blk_below hh3 hb4 hz3a
      have hr4 := blk_below hr3 hb4 hz3b
      obtain ⟨y0, y1, y2, y3, y4, y5, y6, y7, -⟩ := blk8 hh4
      obtain ⟨z0, z1, z2, z3, z4, z5, zf⟩ := blk6 hr4
      clear hc4 hf4 hh3 hr3
      go_wp2_with fail
      (go_at_call 25; with_reducible refine (HL.out _).mono ?_; rintro e5 w5 ⟨rfl, hb5⟩; obtain ⟨hc5, hf5⟩ := bcell hb5; have hB5 : Below w.heap.size w w5 := (below_then (by first | (go_grown; done) | (repeat (first | (with_reducible assumption) | (with_reducible exact Below.refl _ _) | (with_reducible refine below_drewN' ?_ _) | (with_reducible refine Below.drew ?_) | ((with_reducible refine Below.alloc ?_ ?_ _); rotate_left; focus (first | (simp; done) | (simp; omega) | omega)) | ((with_reducible refine Below.setCell ?_ ?_ _); rotate_left; focus (first | (simp; done) | (simp; omega) | omega))))) (by first | omega | (simp; done) | (simp; omega)) hb5); have hz5a : w.heap.size < w5.heap.size := (by have := hb5.size; first | omega | (simp at this; omega)); have hz5b : w.heap.size + 1 < w5.heap.size := (by have := hb5.size; first | omega | (simp at this; omega)); have hz5c : w4.heap.size < w5.heap.size := (by have := hb5.size; first | omega | (simp at this; omega)))
      have hh5 := blk_below (blk_alloc hh4 hz4a) hb5 (by first | (simp; done) | (simp; omega))
      have hr5 := blk_below (blk_alloc hr4 hz4b) hb5 (by first | (simp; done) | (simp; omega))
      have hl5 : w5.heap[w4.heap.size]? = some (.cells #[.int .i64 p, .int .i64 k, .int .i64 g, .int .i64 VD, .int .i64 VH, .int .i64 VC] 30 (0, 0)) := blk_below (heap_alloc_new _ _) hb5 (by simp)
      clear y0 y1 y2 y3 y4 y5 y6 y7 z0 z1 z2 z3 z4 z5 zf
      obtain ⟨z0, z1, z2, z3, z4, z5, zf⟩ := blk6 hr5
      obtain ⟨l0, l1, l2, l3, l4, l5, -⟩ := blk6 hl5
      clear hc5 hf5 hh4 hh5 hr4 hl5
      go_wp2_with fail
      obtain ⟨s0, s1, s2, s3, s4, s5, -⟩ := blk6 (res6 hr5 (.int .i64 0) (.int .i64 0) (.int .i64 0) (.int .i64 0) (.int .i64 0) (.int .i64 0))
      (try simp only [Exit.inBlock, Exit.then]); refine bodyPost_ret (by simp [results, Try.results14, go_sem, s0, s1, s2, s3, s4, s5]; try rfl) rfl ?_
      exact ⟨by first | rfl | simp [loI, loB, loC], by (repeat (first | (with_reducible assumption) | (with_reducible exact Below.refl _ _) | (with_reducible refine below_drewN' ?_ _) | (with_reducible refine Below.drew ?_) | ((with_reducible refine Below.alloc ?_ ?_ _); rotate_left; focus (first | (simp; done) | (simp; omega) | omega)) | ((with_reducible refine Below.setCell ?_ ?_ _); rotate_left; focus (first | (simp; done) | (simp; omega) | omega))))⟩
    · unfold layOf at hlay
      rw [hlay] at HL
      clear hF hfam hhas hlev hlay hll
      generalize layDat kind p k col size (nth lv j) = VD at *
      generalize ((layChk kind p k col size (nth lv j) : Nat) : Int) = VH at *
      generalize ((layCnt kind p k col size : Nat) : Int) = VC at *
      go_enter Try.func14, Try.ntmps14
      go_wp2_with fail
      (go_at_call 19; refine (HI.out _ (by (repeat (first | (with_reducible assumption) | (with_reducible exact Below.refl _ _) | (with_reducible refine below_drewN' ?_ _) | (with_reducible refine Below.drew ?_) | ((with_reducible refine Below.alloc ?_ ?_ _); rotate_left; focus (first | (simp; done) | (simp; omega) | omega)) | ((with_reducible refine Below.setCell ?_ ?_ _); rotate_left; focus (first | (simp; done) | (simp; omega) | omega)))))).mono ?_; rintro e1 w1 ⟨rfl, hb1⟩; obtain ⟨hc1, hf1⟩ := bcell hb1; have hB1 : Below w.heap.size w w1 := (below_then (by first | (go_grown; done) | (repeat (first | (with_reducible assumption) | (with_reducible exact Below.refl _ _) | (with_reducible refine below_drewN' ?_ _) | (with_reducible refine Below.drew ?_) | ((with_reducible refine Below.alloc ?_ ?_ _); rotate_left; focus (first | (simp; done) | (simp; omega) | omega)) | ((with_reducible refine Below.setCell ?_ ?_ _); rotate_left; focus (first | (simp; done) | (simp; omega) | omega))))) (by first | omega | (simp; done) | (simp; omega)) hb1); have hz1a : w.heap.size < w1.heap.size := (by have := hb1.size; first | omega | (simp at this; omega)); have hz1b : w.heap.size + 1 < w1.heap.size := (by have := hb1.size; first | omega | (simp at this; omega)))
      have hh1 := blk_below (blk_alloc (heap_alloc_new w (.cells #[.string s, .int .i64 kind, .int .i64 p, .int .i64 k, .int .i64 g, .slice A1 n1 c1, .int .i64 col, .slice A2 n2 c2] 34)) (by simp)) hb1 (by simp; omega)
      have hr1 : w1.heap[w.heap.size + 1]? = some (.cells #[.int .i64 0, .int .i64 0, .int .i64 0, .int .i64 0, .int .i64 0, .int .i64 0] 30 (0, 0)) := by
        refine blk_below ?_ hb1 (by first | (simp; done) | (simp; omega))
        (repeat (first | (with_reducible exact heap_alloc_new _ _) | (rw [heap_drew1]) | (rw [heap_drewN1]) | (rw [Below.heap_setCell _ _ _ _ (by first | omega | (simp; done) | (simp; omega))]) | (rw [Below.heap_alloc _ _ _ (by first | omega | (simp; done) | (simp; omega))]) | (exact heap_alloc_at (by first | omega | (simp; done) | (simp; omega)))))
      obtain ⟨y0, y1, y2, y3, y4, y5, y6, y7, -⟩ := blk8 hh1
      obtain ⟨z0, z1, z2, z3, z4, z5, zf⟩ := blk6 hr1
      clear hc1 hf1
      go_wp2_with fail
      (go_at_call 51; refine (HS.out _ (by (repeat (first | (with_reducible assumption) | (with_reducible exact Below.refl _ _) | (with_reducible refine below_drewN' ?_ _) | (with_reducible refine Below.drew ?_) | ((with_reducible refine Below.alloc ?_ ?_ _); rotate_left; focus (first | (simp; done) | (simp; omega) | omega)) | ((with_reducible refine Below.setCell ?_ ?_ _); rotate_left; focus (first | (simp; done) | (simp; omega) | omega)))))).mono ?_; rintro e2 w2 ⟨rfl, hb2⟩; obtain ⟨hc2, hf2⟩ := bcell hb2; have hB2 : Below w.heap.size w w2 := (below_then (by first | (go_grown; done) | (repeat (first | (with_reducible assumption) | (with_reducible exact Below.refl _ _) | (with_reducible refine below_drewN' ?_ _) | (with_reducible refine Below.drew ?_) | ((with_reducible refine Below.alloc ?_ ?_ _); rotate_left; focus (first | (simp; done) | (simp; omega) | omega)) | ((with_reducible refine Below.setCell ?_ ?_ _); rotate_left; focus (first | (simp; done) | (simp; omega) | omega))))) (by first | omega | (simp; done) | (simp; omega)) hb2); have hz2a : w.heap.size < w2.heap.size := (by have := hb2.size; first | omega | (simp at this; omega)); have hz2b : w.heap.size + 1 < w2.heap.size := (by have := hb2.size; first | omega | (simp at this; omega)))
      clear y0 y1 y2 y3 y4 y5 y6 y7 z0 z1 z2 z3 z4 z5 zf
      have hh2 := blk_below hh1 hb2 hz1a
      have hr2 := blk_below hr1 hb2 hz1b
      obtain ⟨y0, y1, y2, y3, y4, y5, y6, y7, -⟩ := blk8 hh2
      obtain ⟨z0, z1, z2, z3, z4, z5, zf⟩ := blk6 hr2
      clear hc2 hf2 hh1 hr1
      go_wp2_with fail
      (go_at_call 52; with_reducible refine (HV.out _).mono ?_; rintro e3 w3 ⟨rfl, hb3⟩; obtain ⟨hc3, hf3⟩ := bcell hb3; have hB3 : Below w.heap.size w w3 := (below_then (by first | (go_grown; done) | (repeat (first | (with_reducible assumption) | (with_reducible exact Below.refl _ _) | (with_reducible refine below_drewN' ?_ _) | (with_reducible refine Below.drew ?_) | ((with_reducible refine Below.alloc ?_ ?_ _); rotate_left; focus (first | (simp; done) | (simp; omega) | omega)) | ((with_reducible refine Below.setCell ?_ ?_ _); rotate_left; focus (first | (simp; done) | (simp; omega) | omega))))) (by first | omega | (simp; done) | (simp; omega)) hb3); have hz3a : w.heap.size < w3.heap.size := (by have := hb3.size; first | omega | (simp at this; omega)); have hz3b : w.heap.size + 1 < w3.heap.size := (by have := hb3.size; first | omega | (simp at this; omega)))
      clear y0 y1 y2 y3 y4 y5 y6 y7 z0 z1 z2 z3 z4 z5 zf
      have hh3 := blk_below hh2 hb3 hz2a
      have hr3 := blk_below hr2 hb3 hz2b
      obtain ⟨y0, y1, y2, y3, y4, y5, y6, y7, -⟩ := blk8 hh3
      obtain ⟨z0, z1, z2, z3, z4, z5, zf⟩ := blk6 hr3
      clear hc3 hf3 hh2 hr2
      go_wp2_with fail
      (go_at_call 53; refine (HY.out _ (by (repeat (first | (with_reducible assumption) | (with_reducible exact Below.refl _ _) | (with_reducible refine below_drewN' ?_ _) | (with_reducible refine Below.drew ?_) | ((with_reducible refine Below.alloc ?_ ?_ _); rotate_left; focus (first | (simp; done) | (simp; omega) | omega)) | ((with_reducible refine Below.setCell ?_ ?_ _); rotate_left; focus (first | (simp; done) | (simp; omega) | omega)))))).mono ?_; rintro e4 w4 ⟨rfl, hb4⟩; obtain ⟨hc4, hf4⟩ := bcell hb4; have hB4 : Below w.heap.size w w4 := (below_then (by first | (go_grown; done) | (repeat (first | (with_reducible assumption) | (with_reducible exact Below.refl _ _) | (with_reducible refine below_drewN' ?_ _) | (with_reducible refine Below.drew ?_) | ((with_reducible refine Below.alloc ?_ ?_ _); rotate_left; focus (first | (simp; done) | (simp; omega) | omega)) | ((with_reducible refine Below.setCell ?_ ?_ _); rotate_left; focus (first | (simp; done) | (simp; omega) | omega))))) (by first | omega | (simp; done) | (simp; omega)) hb4); have hz4a : w.heap.size < w4.heap.size := (by have := hb4.size; first | omega | (simp at this; omega)); have hz4b : w.heap.size + 1 < w4.heap.size := (by have := hb4.size; first | omega | (simp at this; omega)))
      clear y0 y1 y2 y3 y4 y5 y6 y7 z0 z1 z2 z3 z4 z5 zf
      have hh4 := blk_below hh3 hb4 hz3a
      have hr4 := blk_below hr3 hb4 hz3b
      obtain ⟨y0, y1, y2, y3, y4, y5, y6, y7, -⟩ := blk8 hh4
      obtain ⟨z0, z1, z2, z3, z4, z5, zf⟩ := blk6 hr4
      clear hc4 hf4 hh3 hr3
      go_wp2_with fail
      (go_at_call 25; with_reducible refine (HL.out _).mono ?_; rintro e5 w5 ⟨rfl, hb5⟩; obtain ⟨hc5, hf5⟩ := bcell hb5; have hB5 : Below w.heap.size w w5 := (below_then (by first | (go_grown; done) | (repeat (first | (with_reducible assumption) | (with_reducible exact Below.refl _ _) | (with_reducible refine below_drewN' ?_ _) | (with_reducible refine Below.drew ?_) | ((with_reducible refine Below.alloc ?_ ?_ _); rotate_left; focus (first | (simp; done) | (simp; omega) | omega)) | ((with_reducible refine Below.setCell ?_ ?_ _); rotate_left; focus (first | (simp; done) | (simp; omega) | omega))))) (by first | omega | (simp; done) | (simp; omega)) hb5); have hz5a : w.heap.size < w5.heap.size := (by have := hb5.size; first | omega | (simp at this; omega)); have hz5b : w.heap.size + 1 < w5.heap.size := (by have := hb5.size; first | omega | (simp at this; omega)); have hz5c : w4.heap.size < w5.heap.size := (by have := hb5.size; first | omega | (simp at this; omega)))
      have hh5 := blk_below (blk_alloc hh4 hz4a) hb5 (by first | (simp; done) | (simp; omega))
      have hr5 := blk_below (blk_alloc hr4 hz4b) hb5 (by first | (simp; done) | (simp; omega))
      have hl5 : w5.heap[w4.heap.size]? = some (.cells #[.int .i64 p, .int .i64 k, .int .i64 g, .int .i64 VD, .int .i64 VH, .int .i64 VC] 30 (0, 0)) := blk_below (heap_alloc_new _ _) hb5 (by simp)
      clear y0 y1 y2 y3 y4 y5 y6 y7 z0 z1 z2 z3 z4 z5 zf
      obtain ⟨z0, z1, z2, z3, z4, z5, zf⟩ := blk6 hr5
      obtain ⟨l0, l1, l2, l3, l4, l5, -⟩ := blk6 hl5
      clear hc5 hf5 hh4 hh5 hr4 hl5
      go_wp2_with fail
      obtain ⟨s0, s1, s2, s3, s4, s5, -⟩ := blk6 (res6 hr5 (.int .i64 p) (.int .i64 k) (.int .i64 g) (.int .i64 VD) (.int .i64 VH) (.int .i64 VC))
      (try simp only [Exit.inBlock, Exit.then]); refine bodyPost_ret (by simp [results, Try.results14, go_sem, s0, s1, s2, s3, s4, s5]; try rfl) rfl ?_
      exact ⟨by first | rfl | simp [loI, loB, loC], by (repeat (first | (with_reducible assumption) | (with_reducible exact Below.refl _ _) | (with_reducible refine below_drewN' ?_ _) | (with_reducible refine Below.drew ?_) | ((with_reducible refine Below.alloc ?_ ?_ _); rotate_left; focus (first | (simp; done) | (simp; omega) | omega)) | ((with_reducible refine Below.setCell ?_ ?_ _); rotate_left; focus (first | (simp; done) | (simp; omega) | omega))))⟩

set_option maxHeartbeats 8000000 in
theorem sLayoutOf_any (s : ByteArray) (kind p k g col : Int) (A1 A2 : Option Addr) (n1 c1 n2 c2 : Nat) (sz lv : List Int) (size level : Int) (w : World) (B : Nat) (hF : FamOk w B s A1 n1 sz A2 n2 lv) (hB : B ≤ w.heap.size) :
    Calls Try.prog 12 #[.agg #[.string s, .int .i64 kind, .int .i64 p, .int .i64 k, .int .i64 g, .slice A1 n1 c1, .int .i64 col, .slice A2 n2 c2], .int .i64 size, .int .i64 level] w fun e w' => e = .returned (.tuple #[.agg #[.int .i64 (loI (loB (famB s kind p k g col n1 sz n2 lv) (hasB size sz) (inR level 0 ((n2 : Int) - 1)) (layOf kind p k g col size (nth lv level.toNat))) p), .int .i64 (loI (loB (famB s kind p k g col n1 sz n2 lv) (hasB size sz) (inR level 0 ((n2 : Int) - 1)) (layOf kind p k g col size (nth lv level.toNat))) k), .int .i64 (loI (loB (famB s kind p k g col n1 sz n2 lv) (hasB size sz) (inR level 0 ((n2 : Int) - 1)) (layOf kind p k g col size (nth lv level.toNat))) g), .int .i64 (loI (loB (famB s kind p k g col n1 sz n2 lv) (hasB size sz) (inR level 0 ((n2 : Int) - 1)) (layOf kind p k g col size (nth lv level.toNat))) (layDat kind p k col size (nth lv level.toNat))), .int .i64 (loI (loB (famB s kind p k g col n1 sz n2 lv) (hasB size sz) (inR level 0 ((n2 : Int) - 1)) (layOf kind p k g col size (nth lv level.toNat))) (layChk kind p k col size (nth lv level.toNat) : Nat)), .int .i64 (loI (loB (famB s kind p k g col n1 sz n2 lv) (hasB size sz) (inR level 0 ((n2 : Int) - 1)) (layOf kind p k g col size (nth lv level.toNat))) (layCnt kind p k col size : Nat))], .int .i64 (loC (famB s kind p k g col n1 sz n2 lv) (hasB size sz) (inR level 0 ((n2 : Int) - 1)) (layOf kind p k g col size (nth lv level.toNat)))]) ∧ Below w.heap.size w w' := by
  have HC := Lib.hid (fun (w' : World) (hb : Below w.heap.size w w') => l13Code_any s kind p k g col A1 A2 n1 c1 n2 c2 sz lv size w' w.heap.size ((hF.more hB).below hb) hb.size)
  have HV := Lib.hid (fun w => l01In_any level 0 ((n2 : Int) - 1) w)
  have hn2 := hF.l2
  cases hfam : famB s kind p k g col n1 sz n2 lv
  · rw [hfam] at HC; rw [show ecC false (hasB size sz) = 1 by rfl] at HC
    clear hF hfam
    generalize hasB size sz = has at *
    generalize inR level 0 ((n2 : Int) - 1) = lev at *
    generalize layOf kind p k g col size (nth lv level.toNat) = lay at *
    generalize layDat kind p k col size (nth lv level.toNat) = VD at *
    generalize ((layChk kind p k col size (nth lv level.toNat) : Nat) : Int) = VH at *
    generalize ((layCnt kind p k col size : Nat) : Int) = VC at *
    go_enter Try.func12, Try.ntmps12
    go_wp2_with fail
    (go_at_call 46; refine (HC.out _ (by (repeat (first | (with_reducible assumption) | (with_reducible exact Below.refl _ _) | (with_reducible refine below_drewN' ?_ _) | (with_reducible refine Below.drew ?_) | ((with_reducible refine Below.alloc ?_ ?_ _); rotate_left; focus (first | (simp; done) | (simp; omega) | omega)) | ((with_reducible refine Below.setCell ?_ ?_ _); rotate_left; focus (first | (simp; done) | (simp; omega) | omega)))))).mono ?_; rintro e1 w1 ⟨rfl, hb1⟩; obtain ⟨hc1, hf1⟩ := bcell hb1; have hB1 : Below w.heap.size w w1 := (below_then (by first | (go_grown; done) | (repeat (first | (with_reducible assumption) | (with_reducible exact Below.refl _ _) | (with_reducible refine below_drewN' ?_ _) | (with_reducible refine Below.drew ?_) | ((with_reducible refine Below.alloc ?_ ?_ _); rotate_left; focus (first | (simp; done) | (simp; omega) | omega)) | ((with_reducible refine Below.setCell ?_ ?_ _); rotate_left; focus (first | (simp; done) | (simp; omega) | omega))))) (by first | omega | (simp; done) | (simp; omega)) hb1); have hz1a : w.heap.size < w1.heap.size := (by have := hb1.size; first | omega | (simp at this; omega)); have hz1b : w.heap.size + 1 < w1.heap.size := (by have := hb1.size; first | omega | (simp at this; omega)))
    have hh1 := blk_below (blk_alloc (heap_alloc_new w (.cells #[.string s, .int .i64 kind, .int .i64 p, .int .i64 k, .int .i64 g, .slice A1 n1 c1, .int .i64 col, .slice A2 n2 c2] 34)) (by simp)) hb1 (by simp; omega)
    have hr1 : w1.heap[w.heap.size + 1]? = some (.cells #[.int .i64 0, .int .i64 0, .int .i64 0, .int .i64 0, .int .i64 0, .int .i64 0] 30 (0, 0)) := by
      refine blk_below ?_ hb1 (by first | (simp; done) | (simp; omega))
      (repeat (first | (with_reducible exact heap_alloc_new _ _) | (rw [heap_drew1]) | (rw [heap_drewN1]) | (rw [Below.heap_setCell _ _ _ _ (by first | omega | (simp; done) | (simp; omega))]) | (rw [Below.heap_alloc _ _ _ (by first | omega | (simp; done) | (simp; omega))]) | (exact heap_alloc_at (by first | omega | (simp; done) | (simp; omega)))))
    obtain ⟨y0, y1, y2, y3, y4, y5, y6, y7, -⟩ := blk8 hh1
    obtain ⟨z0, z1, z2, z3, z4, z5, zf⟩ := blk6 hr1
    clear hc1 hf1
    go_wp2_with fail
    obtain ⟨s0, s1, s2, s3, s4, s5, -⟩ := blk6 (res6 hr1 (.int .i64 0) (.int .i64 0) (.int .i64 0) (.int .i64 0) (.int .i64 0) (.int .i64 0))
    (try simp only [Exit.inBlock, Exit.then]); refine bodyPost_ret (by simp [results, Try.results12, go_sem, s0, s1, s2, s3, s4, s5]; try rfl) rfl ?_
    exact ⟨by first | rfl | simp [loI, loB, loC], by (repeat (first | (with_reducible assumption) | (with_reducible exact Below.refl _ _) | (with_reducible refine below_drewN' ?_ _) | (with_reducible refine Below.drew ?_) | ((with_reducible refine Below.alloc ?_ ?_ _); rotate_left; focus (first | (simp; done) | (simp; omega) | omega)) | ((with_reducible refine Below.setCell ?_ ?_ _); rotate_left; focus (first | (simp; done) | (simp; omega) | omega))))⟩
  cases hhas : hasB size sz
  · skip
    rw [hfam, hhas] at HC; rw [show ecC true false = 2 from rfl] at HC
    clear hF hfam hhas
    generalize inR level 0 ((n2 : Int) - 1) = lev at *
    generalize layOf kind p k g col size (nth lv level.toNat) = lay at *
    generalize layDat kind p k col size (nth lv level.toNat) = VD at *
    generalize ((layChk kind p k col size (nth lv level.toNat) : Nat) : Int) = VH at *
    generalize ((layCnt kind p k col size : Nat) : Int) = VC at *
    go_enter Try.func12, Try.ntmps12
    go_wp2_with fail
    (go_at_call 46; refine (HC.out _ (by (repeat (first | (with_reducible assumption) | (with_reducible exact Below.refl _ _) | (with_reducible refine below_drewN' ?_ _) | (with_reducible refine Below.drew ?_) | ((with_reducible refine Below.alloc ?_ ?_ _); rotate_left; focus (first | (simp; done) | (simp; omega) | omega)) | ((with_reducible refine Below.setCell ?_ ?_ _); rotate_left; focus (first | (simp; done) | (simp; omega) | omega)))))).mono ?_; rintro e1 w1 ⟨rfl, hb1⟩; obtain ⟨hc1, hf1⟩ := bcell hb1; have hB1 : Below w.heap.size w w1 := (below_then (by first | (go_grown; done) | (repeat (first | (with_reducible assumption) | (with_reducible exact Below.refl _ _) | (with_reducible refine below_drewN' ?_ _) | (with_reducible refine Below.drew ?_) | ((with_reducible refine Below.alloc ?_ ?_ _); rotate_left; focus (first | (simp; done) | (simp; omega) | omega)) | ((with_reducible refine Below.setCell ?_ ?_ _); rotate_left; focus (first | (simp; done) | (simp; omega) | omega))))) (by first | omega | (simp; done) | (simp; omega)) hb1); have hz1a : w.heap.size < w1.heap.size := (by have := hb1.size; first | omega | (simp at this; omega)); have hz1b : w.heap.size + 1 < w1.heap.size := (by have := hb1.size; first | omega | (simp at this; omega)))
    have hh1 := blk_below (blk_alloc (heap_alloc_new w (.cells #[.string s, .int .i64 kind, .int .i64 p, .int .i64 k, .int .i64 g, .slice A1 n1 c1, .int .i64 col, .slice A2 n2 c2] 34)) (by simp)) hb1 (by simp; omega)
    have hr1 : w1.heap[w.heap.size + 1]? = some (.cells #[.int .i64 0, .int .i64 0, .int .i64 0, .int .i64 0, .int .i64 0, .int .i64 0] 30 (0, 0)) := by
      refine blk_below ?_ hb1 (by first | (simp; done) | (simp; omega))
      (repeat (first | (with_reducible exact heap_alloc_new _ _) | (rw [heap_drew1]) | (rw [heap_drewN1]) | (rw [Below.heap_setCell _ _ _ _ (by first | omega | (simp; done) | (simp; omega))]) | (rw [Below.heap_alloc _ _ _ (by first | omega | (simp; done) | (simp; omega))]) | (exact heap_alloc_at (by first | omega | (simp; done) | (simp; omega)))))
    obtain ⟨y0, y1, y2, y3, y4, y5, y6, y7, -⟩ := blk8 hh1
    obtain ⟨z0, z1, z2, z3, z4, z5, zf⟩ := blk6 hr1
    clear hc1 hf1
    go_wp2_with fail
    obtain ⟨s0, s1, s2, s3, s4, s5, -⟩ := blk6 (res6 hr1 (.int .i64 0) (.int .i64 0) (.int .i64 0) (.int .i64 0) (.int .i64 0) (.int .i64 0))
    (try simp only [Exit.inBlock, Exit.then]); refine bodyPost_ret (by simp [results, Try.results12, go_sem, s0, s1, s2, s3, s4, s5]; try rfl) rfl ?_
    exact ⟨by first | rfl | simp [loI, loB, loC], by (repeat (first | (with_reducible assumption) | (with_reducible exact Below.refl _ _) | (with_reducible refine below_drewN' ?_ _) | (with_reducible refine Below.drew ?_) | ((with_reducible refine Below.alloc ?_ ?_ _); rotate_left; focus (first | (simp; done) | (simp; omega) | omega)) | ((with_reducible refine Below.setCell ?_ ?_ _); rotate_left; focus (first | (simp; done) | (simp; omega) | omega))))⟩
  cases hlev : inR level 0 ((n2 : Int) - 1)
  · skip
    rw [hfam, hhas] at HC; rw [show ecC true true = 0 from rfl] at HC
    rw [hlev] at HV
    clear hF hfam hhas hlev
    generalize layOf kind p k g col size (nth lv level.toNat) = lay at *
    generalize layDat kind p k col size (nth lv level.toNat) = VD at *
    generalize ((layChk kind p k col size (nth lv level.toNat) : Nat) : Int) = VH at *
    generalize ((layCnt kind p k col size : Nat) : Int) = VC at *
    go_enter Try.func12, Try.ntmps12
    go_wp2_with fail
    (go_at_call 46; refine (HC.out _ (by (repeat (first | (with_reducible assumption) | (with_reducible exact Below.refl _ _) | (with_reducible refine below_drewN' ?_ _) | (with_reducible refine Below.drew ?_) | ((with_reducible refine Below.alloc ?_ ?_ _); rotate_left; focus (first | (simp; done) | (simp; omega) | omega)) | ((with_reducible refine Below.setCell ?_ ?_ _); rotate_left; focus (first | (simp; done) | (simp; omega) | omega)))))).mono ?_; rintro e1 w1 ⟨rfl, hb1⟩; obtain ⟨hc1, hf1⟩ := bcell hb1; have hB1 : Below w.heap.size w w1 := (below_then (by first | (go_grown; done) | (repeat (first | (with_reducible assumption) | (with_reducible exact Below.refl _ _) | (with_reducible refine below_drewN' ?_ _) | (with_reducible refine Below.drew ?_) | ((with_reducible refine Below.alloc ?_ ?_ _); rotate_left; focus (first | (simp; done) | (simp; omega) | omega)) | ((with_reducible refine Below.setCell ?_ ?_ _); rotate_left; focus (first | (simp; done) | (simp; omega) | omega))))) (by first | omega | (simp; done) | (simp; omega)) hb1); have hz1a : w.heap.size < w1.heap.size := (by have := hb1.size; first | omega | (simp at this; omega)); have hz1b : w.heap.size + 1 < w1.heap.size := (by have := hb1.size; first | omega | (simp at this; omega)))
    have hh1 := blk_below (blk_alloc (heap_alloc_new w (.cells #[.string s, .int .i64 kind, .int .i64 p, .int .i64 k, .int .i64 g, .slice A1 n1 c1, .int .i64 col, .slice A2 n2 c2] 34)) (by simp)) hb1 (by simp; omega)
    have hr1 : w1.heap[w.heap.size + 1]? = some (.cells #[.int .i64 0, .int .i64 0, .int .i64 0, .int .i64 0, .int .i64 0, .int .i64 0] 30 (0, 0)) := by
      refine blk_below ?_ hb1 (by first | (simp; done) | (simp; omega))
      (repeat (first | (with_reducible exact heap_alloc_new _ _) | (rw [heap_drew1]) | (rw [heap_drewN1]) | (rw [Below.heap_setCell _ _ _ _ (by first | omega | (simp; done) | (simp; omega))]) | (rw [Below.heap_alloc _ _ _ (by first | omega | (simp; done) | (simp; omega))]) | (exact heap_alloc_at (by first | omega | (simp; done) | (simp; omega)))))
    obtain ⟨y0, y1, y2, y3, y4, y5, y6, y7, -⟩ := blk8 hh1
    obtain ⟨z0, z1, z2, z3, z4, z5, zf⟩ := blk6 hr1
    clear hc1 hf1
    go_wp2_with (go_at_call 47; refine (HV.out _).mono ?_; rintro e w' ⟨rfl, rfl⟩)
    obtain ⟨s0, s1, s2, s3, s4, s5, -⟩ := blk6 (res6 hr1 (.int .i64 0) (.int .i64 0) (.int .i64 0) (.int .i64 0) (.int .i64 0) (.int .i64 0))
    (try simp only [Exit.inBlock, Exit.then]); refine bodyPost_ret (by simp [results, Try.results12, go_sem, s0, s1, s2, s3, s4, s5]; try rfl) rfl ?_
    exact ⟨by first | rfl | simp [loI, loB, loC], by (repeat (first | (with_reducible assumption) | (with_reducible exact Below.refl _ _) | (with_reducible refine below_drewN' ?_ _) | (with_reducible refine Below.drew ?_) | ((with_reducible refine Below.alloc ?_ ?_ _); rotate_left; focus (first | (simp; done) | (simp; omega) | omega)) | ((with_reducible refine Below.setCell ?_ ?_ _); rotate_left; focus (first | (simp; done) | (simp; omega) | omega))))⟩
  · skip
    rw [hfam, hhas] at HC; rw [show ecC true true = 0 from rfl] at HC
    rw [hlev] at HV
    obtain ⟨j, rfl, hj⟩ := lev_facts hlev
    have hll := fam_lev hfam (j := j) (by have := hF.h2.len; omega)
    have HY := Lib.hid (fun (w' : World) (hb : Below w.heap.size w w') => l13Layout_any s kind p k g col A1 A2 n1 c1 n2 c2 sz lv size j w' w.heap.size (fam_size hfam hhas) ((hF.h2.more hB).below hb) hb.size hj hll.1 hll.2)
    rw [Int.toNat_natCast]
    have HL := Lib.hid (fun w => sIsLayout_any p k g (layDat kind p k col size (nth lv j)) (layChk kind p k col size (nth lv j) : Nat) (layCnt kind p k col size : Nat) w)
    cases hlay : layOf kind p k g col size (nth lv j)
    · unfold layOf at hlay
      rw [hlay] at HL
      clear hF hfam hhas hlev hlay hll
      generalize layDat kind p k col size (nth lv j) = VD at *
      generalize ((layChk kind p k col size (nth lv j) : Nat) : Int) = VH at *
      generalize ((layCnt kind p k col size : Nat) : Int) = VC at *
      go_enter Try.func12, Try.ntmps12
      go_wp2_with fail
      (go_at_call 46; refine (HC.out _ (by (repeat (first | (with_reducible assumption) | (with_reducible exact Below.refl _ _) | (with_reducible refine below_drewN' ?_ _) | (with_reducible refine Below.drew ?_) | ((with_reducible refine Below.alloc ?_ ?_ _); rotate_left; focus (first | (simp; done) | (simp; omega) | omega)) | ((with_reducible refine Below.setCell ?_ ?_ _); rotate_left; focus (first | (simp; done) | (simp; omega) | omega)))))).mono ?_; rintro e1 w1 ⟨rfl, hb1⟩; obtain ⟨hc1, hf1⟩ := bcell hb1; have hB1 : Below w.heap.size w w1 := (below_then (by first | (go_grown; done) | (repeat (first | (with_reducible assumption) | (with_reducible exact Below.refl _ _) | (with_reducible refine below_drewN' ?_ _) | (with_reducible refine Below.drew ?_) | ((with_reducible refine Below.alloc ?_ ?_ _); rotate_left; focus (first | (simp; done) | (simp; omega) | omega)) | ((with_reducible refine Below.setCell ?_ ?_ _); rotate_left; focus (first | (simp; done) | (simp; omega) | omega))))) (by first | omega | (simp; done) | (simp; omega)) hb1); have hz1a : w.heap.size < w1.heap.size := (by have := hb1.size; first | omega | (simp at this; omega)); have hz1b : w.heap.size + 1 < w1.heap.size := (by have := hb1.size; first | omega | (simp at this; omega)))
      have hh1 := blk_below (blk_alloc (heap_alloc_new w (.cells #[.string s, .int .i64 kind, .int .i64 p, .int .i64 k, .int .i64 g, .slice A1 n1 c1, .int .i64 col, .slice A2 n2 c2] 34)) (by simp)) hb1 (by simp; omega)
      have hr1 : w1.heap[w.heap.size + 1]? = some (.cells #[.int .i64 0, .int .i64 0, .int .i64 0, .int .i64 0, .int .i64 0, .int .i64 0] 30 (0, 0)) := by
        refine blk_below ?_ hb1 (by first | (simp; done) | (simp; omega))
        (repeat (first | (with_reducible exact heap_alloc_new _ _) | (rw [heap_drew1]) | (rw [heap_drewN1]) | (rw [Below.heap_setCell _ _ _ _ (by first | omega | (simp; done) | (simp; omega))]) | (rw [Below.heap_alloc _ _ _ (by first | omega | (simp; done) | (simp; omega))]) | (exact heap_alloc_at (by first | omega | (simp; done) | (simp; omega)))))
      obtain ⟨y0, y1, y2, y3, y4, y5, y6, y7, -⟩ := blk8 hh1
      obtain ⟨z0, z1, z2, z3, z4, z5, zf⟩ := blk6 hr1
      clear hc1 hf1
      go_wp2_with (go_at_call 47; refine (HV.out _).mono ?_; rintro e w' ⟨rfl, rfl⟩)
      (go_at_call 48; refine (HY.out _ (by (repeat (first | (with_reducible assumption) | (with_reducible exact Below.refl _ _) | (with_reducible refine below_drewN' ?_ _) | (with_reducible refine Below.drew ?_) | ((with_reducible refine Below.alloc ?_ ?_ _); rotate_left; focus (first | (simp; done) | (simp; omega) | omega)) | ((with_reducible refine Below.setCell ?_ ?_ _); rotate_left; focus (first | (simp; done) | (simp; omega) | omega)))))).mono ?_; rintro e2 w2 ⟨rfl, hb2⟩; obtain ⟨hc2, hf2⟩ := bcell hb2; have hB2 : Below w.heap.size w w2 := (below_then (by first | (go_grown; done) | (repeat (first | (with_reducible assumption) | (with_reducible exact Below.refl _ _) | (with_reducible refine below_drewN' ?_ _) | (with_reducible refine Below.drew ?_) | ((with_reducible refine Below.alloc ?_ ?_ _); rotate_left; focus (first | (simp; done) | (simp; omega) | omega)) | ((with_reducible refine Below.setCell ?_ ?_ _); rotate_left; focus (first | (simp; done) | (simp; omega) | omega))))) (by first | omega | (simp; done) | (simp; omega)) hb2); have hz2a : w.heap.size < w2.heap.size := (by have := hb2.size; first | omega | (simp at this; omega)); have hz2b : w.heap.size + 1 < w2.heap.size := (by have := hb2.size; first | omega | (simp at this; omega)))
      clear y0 y1 y2 y3 y4 y5 y6 y7 z0 z1 z2 z3 z4 z5 zf
      have hh2 := blk_below hh1 hb2 hz1a
      have hr2 := blk_below hr1 hb2 hz1b
      obtain ⟨y0, y1, y2, y3, y4, y5, y6, y7, -⟩ := blk8 hh2
      obtain ⟨z0, z1, z2, z3, z4, z5, zf⟩ := blk6 hr2
      clear hc2 hf2 hh1 hr1
      go_wp2_with fail
      (go_at_call 49; with_reducible refine (HL.out _).mono ?_; rintro e3 w3 ⟨rfl, hb3⟩; obtain ⟨hc3, hf3⟩ := bcell hb3; have hB3 : Below w.heap.size w w3 := (below_then (by first | (go_grown; done) | (repeat (first | (with_reducible assumption) | (with_reducible exact Below.refl _ _) | (with_reducible refine below_drewN' ?_ _) | (with_reducible refine Below.drew ?_) | ((with_reducible refine Below.alloc ?_ ?_ _); rotate_left; focus (first | (simp; done) | (simp; omega) | omega)) | ((with_reducible refine Below.setCell ?_ ?_ _); rotate_left; focus (first | (simp; done) | (simp; omega) | omega))))) (by first | omega | (simp; done) | (simp; omega)) hb3); have hz3a : w.heap.size < w3.heap.size := (by have := hb3.size; first | omega | (simp at this; omega)); have hz3b : w.heap.size + 1 < w3.heap.size := (by have := hb3.size; first | omega | (simp at this; omega)); have hz3c : w2.heap.size < w3.heap.size := (by have := hb3.size; first | omega | (simp at this; omega)))
      have hh3 := blk_below (blk_alloc hh2 hz2a) hb3 (by first | (simp; done) | (simp; omega))
      have hr3 := blk_below (blk_alloc hr2 hz2b) hb3 (by first | (simp; done) | (simp; omega))
      have hl3 : w3.heap[w2.heap.size]? = some (.cells #[.int .i64 p, .int .i64 k, .int .i64 g, .int .i64 VD, .int .i64 VH, .int .i64 VC] 30 (0, 0)) := blk_below (heap_alloc_new _ _) hb3 (by simp)
      clear y0 y1 y2 y3 y4 y5 y6 y7 z0 z1 z2 z3 z4 z5 zf
      obtain ⟨z0, z1, z2, z3, z4, z5, zf⟩ := blk6 hr3
      obtain ⟨l0, l1, l2, l3, l4, l5, -⟩ := blk6 hl3
      clear hc3 hf3 hh2 hh3 hr2 hl3
      go_wp2_with fail
      obtain ⟨s0, s1, s2, s3, s4, s5, -⟩ := blk6 (res6 hr3 (.int .i64 0) (.int .i64 0) (.int .i64 0) (.int .i64 0) (.int .i64 0) (.int .i64 0))
      (try simp only [Exit.inBlock, Exit.then]); refine bodyPost_ret (by simp [results, Try.results12, go_sem, s0, s1, s2, s3, s4, s5]; try rfl) rfl ?_
      exact ⟨by first | rfl | simp [loI, loB, loC], by (repeat (first | (with_reducible assumption) | (with_reducible exact Below.refl _ _) | (with_reducible refine below_drewN' ?_ _) | (with_reducible refine Below.drew ?_) | ((with_reducible refine Below.alloc ?_ ?_ _); rotate_left; focus (first | (simp; done) | (simp; omega) | omega)) | ((with_reducible refine Below.setCell ?_ ?_ _); rotate_left; focus (first | (simp; done) | (simp; omega) | omega))))⟩
    · unfold layOf at hlay
      rw [hlay] at HL
      clear hF hfam hhas hlev hlay hll
      generalize layDat kind p k col size (nth lv j) = VD at *
      generalize ((layChk kind p k col size (nth lv j) : Nat) : Int) = VH at *
      generalize ((layCnt kind p k col size : Nat) : Int) = VC at *
      go_enter Try.func12, Try.ntmps12
      go_wp2_with fail
      (go_at_call 46; refine (HC.out _ (by (repeat (first | (with_reducible assumption) | (with_reducible exact Below.refl _ _) | (with_reducible refine below_drewN' ?_ _) | (with_reducible refine Below.drew ?_) | ((with_reducible refine Below.alloc ?_ ?_ _); rotate_left; focus (first | (simp; done) | (simp; omega) | omega)) | ((with_reducible refine Below.setCell ?_ ?_ _); rotate_left; focus (first | (simp; done) | (simp; omega) | omega)))))).mono ?_; rintro e1 w1 ⟨rfl, hb1⟩; obtain ⟨hc1, hf1⟩ := bcell hb1; have hB1 : Below w.heap.size w w1 := (below_then (by first | (go_grown; done) | (repeat (first | (with_reducible assumption) | (with_reducible exact Below.refl _ _) | (with_reducible refine below_drewN' ?_ _) | (with_reducible refine Below.drew ?_) | ((with_reducible refine Below.alloc ?_ ?_ _); rotate_left; focus (first | (simp; done) | (simp; omega) | omega)) | ((with_reducible refine Below.setCell ?_ ?_ _); rotate_left; focus (first | (simp; done) | (simp; omega) | omega))))) (by first | omega | (simp; done) | (simp; omega)) hb1); have hz1a : w.heap.size < w1.heap.size := (by have := hb1.size; first | omega | (simp at this; omega)); have hz1b : w.heap.size + 1 < w1.heap.size := (by have := hb1.size; first | omega | (simp at this; omega)))
      have hh1 := blk_below (blk_alloc (heap_alloc_new w (.cells #[.string s, .int .i64 kind, .int .i64 p, .int .i64 k, .int .i64 g, .slice A1 n1 c1, .int .i64 col, .slice A2 n2 c2] 34)) (by simp)) hb1 (by simp; omega)
      have hr1 : w1.heap[w.heap.size + 1]? = some (.cells #[.int .i64 0, .int .i64 0, .int .i64 0, .int .i64 0, .int .i64 0, .int .i64 0] 30 (0, 0)) := by
        refine blk_below ?_ hb1 (by first | (simp; done) | (simp; omega))
        (repeat (first | (with_reducible exact heap_alloc_new _ _) | (rw [heap_drew1]) | (rw [heap_drewN1]) | (rw [Below.heap_setCell _ _ _ _ (by first | omega | (simp; done) | (simp; omega))]) | (rw [Below.heap_alloc _ _ _ (by first | omega | (simp; done) | (simp; omega))]) | (exact heap_alloc_at (by first | omega | (simp; done) | (simp; omega)))))
      obtain ⟨y0, y1, y2, y3, y4, y5, y6, y7, -⟩ := blk8 hh1
      obtain ⟨z0, z1, z2, z3, z4, z5, zf⟩ := blk6 hr1
      clear hc1 hf1
      go_wp2_with (go_at_call 47; refine (HV.out _).mono ?_; rintro e w' ⟨rfl, rfl⟩)
      (go_at_call 48; refine (HY.out _ (by (repeat (first | (with_reducible assumption) | (with_reducible exact Below.refl _ _) | (with_reducible refine below_drewN' ?_ _) | (with_reducible refine Below.drew ?_) | ((with_reducible refine Below.alloc ?_ ?_ _); rotate_left; focus (first | (simp; done) | (simp; omega) | omega)) | ((with_reducible refine Below.setCell ?_ ?_ _); rotate_left; focus (first | (simp; done) | (simp; omega) | omega)))))).mono ?_; rintro e2 w2 ⟨rfl, hb2⟩; obtain ⟨hc2, hf2⟩ := bcell hb2; have hB2 : Below w.heap.size w w2 := (below_then (by first | (go_grown; done) | (repeat (first | (with_reducible assumption) | (with_reducible exact Below.refl _ _) | (with_reducible refine below_drewN' ?_ _) | (with_reducible refine Below.drew ?_) | ((with_reducible refine Below.alloc ?_ ?_ _); rotate_left; focus (first | (simp; done) | (simp; omega) | omega)) | ((with_reducible refine Below.setCell ?_ ?_ _); rotate_left; focus (first | (simp; done) | (simp; omega) | omega))))) (by first | omega | (simp; done) | (simp; omega)) hb2); have hz2a : w.heap.size < w2.heap.size := (by have := hb2.size; first | omega | (simp at this; omega)); have hz2b : w.heap.size + 1 < w2.heap.size := (by have := hb2.size; first | omega | (simp at this; omega)))
      clear y0 y1 y2 y3 y4 y5 y6 y7 z0 z1 z2 z3 z4 z5 zf
      have hh2 := blk_below hh1 hb2 hz1a
      have hr2 := blk_below hr1 hb2 hz1b
      obtain ⟨y0, y1, y2, y3, y4, y5, y6, y7, -⟩ := blk8 hh2
      obtain ⟨z0, z1, z2, z3, z4, z5, zf⟩ := blk6 hr2
      clear hc2 hf2 hh1 hr1
      go_wp2_with fail
      (go_at_call 49; with_reducible refine (HL.out _).mono ?_; rintro e3 w3 ⟨rfl, hb3⟩; obtain ⟨hc3, hf3⟩ := bcell hb3; have hB3 : Below w.heap.size w w3 := (below_then (by first | (go_grown; done) | (repeat (first | (with_reducible assumption) | (with_reducible exact Below.refl _ _) | (with_reducible refine below_drewN' ?_ _) | (with_reducible refine Below.drew ?_) | ((with_reducible refine Below.alloc ?_ ?_ _); rotate_left; focus (first | (simp; done) | (simp; omega) | omega)) | ((with_reducible refine Below.setCell ?_ ?_ _); rotate_left; focus (first | (simp; done) | (simp; omega) | omega))))) (by first | omega | (simp; done) | (simp; omega)) hb3); have hz3a : w.heap.size < w3.heap.size := (by have := hb3.size; first | omega | (simp at this; omega)); have hz3b : w.heap.size + 1 < w3.heap.size := (by have := hb3.size; first | omega | (simp at this; omega)); have hz3c : w2.heap.size < w3.heap.size := (by have := hb3.size; first | omega | (simp at this; omega)))
      have hh3 := blk_below (blk_alloc hh2 hz2a) hb3 (by first | (simp; done) | (simp; omega))
      have hr3 := blk_below (blk_alloc hr2 hz2b) hb3 (by first | (simp; done) | (simp; omega))
      have hl3 : w3.heap[w2.heap.size]? = some (.cells #[.int .i64 p, .int .i64 k, .int .i64 g, .int .i64 VD, .int .i64 VH, .int .i64 VC] 30 (0, 0)) := blk_below (heap_alloc_new _ _) hb3 (by simp)
      clear y0 y1 y2 y3 y4 y5 y6 y7 z0 z1 z2 z3 z4 z5 zf
      obtain ⟨z0, z1, z2, z3, z4, z5, zf⟩ := blk6 hr3
      obtain ⟨l0, l1, l2, l3, l4, l5, -⟩ := blk6 hl3
      clear hc3 hf3 hh2 hh3 hr2 hl3
      go_wp2_with fail
      obtain ⟨s0, s1, s2, s3, s4, s5, -⟩ := blk6 (res6 hr3 (.int .i64 p) (.int .i64 k) (.int .i64 g) (.int .i64 VD) (.int .i64 VH) (.int .i64 VC))
      (try simp only [Exit.inBlock, Exit.then]); refine bodyPost_ret (by simp [results, Try.results12, go_sem, s0, s1, s2, s3, s4, s5]; try rfl) rfl ?_
      exact ⟨by first | rfl | simp [loI, loB, loC], by (repeat (first | (with_reducible assumption) | (with_reducible exact Below.refl _ _) | (with_reducible refine below_drewN' ?_ _) | (with_reducible refine Below.drew ?_) | ((with_reducible refine Below.alloc ?_ ?_ _); rotate_left; focus (first | (simp; done) | (simp; omega) | omega)) | ((with_reducible refine Below.setCell ?_ ?_ _); rotate_left; focus (first | (simp; done) | (simp; omega) | omega))))⟩

set_option maxHeartbeats 4000000 in
theorem RoomOf_any (s : ByteArray) (kind p k g col : Int) (A1 A2 : Option Addr) (n1 c1 n2 c2 : Nat) (sz lv : List Int) (size level : Int) (w : World) (B : Nat) (hF : FamOk w B s A1 n1 sz A2 n2 lv) (hB : B ≤ w.heap.size) :
    Calls Try.prog 22 #[.agg #[.string s, .int .i64 kind, .int .i64 p, .int .i64 k, .int .i64 g, .slice A1 n1 c1, .int .i64 col, .slice A2 n2 c2], .int .i64 size, .int .i64 level] w fun e w' => e = .returned (.tuple #[.int .i64 (loI (loB (famB s kind p k g col n1 sz n2 lv) (hasB size sz) (inR level 0 ((n2 : Int) - 1)) (layOf kind p k g col size (nth lv level.toNat))) (layDat kind p k col size (nth lv level.toNat) * widV (fsize p k))), .int .i64 (loC (famB s kind p k g col n1 sz n2 lv) (hasB size sz) (inR level 0 ((n2 : Int) - 1)) (layOf kind p k g col size (nth lv level.toNat)))]) ∧ Below w.heap.size w w' := by
  have HL := Lib.hid (fun (w' : World) (hb : Below w.heap.size w w') => LayoutOf_any s kind p k g col A1 A2 n1 c1 n2 c2 sz lv size level w' w.heap.size ((hF.more hB).below hb) hb.size)
  clear hF
  cases hok : (loB (famB s kind p k g col n1 sz n2 lv) (hasB size sz) (inR level 0 ((n2 : Int) - 1)) (layOf kind p k g col size (nth lv level.toNat)))
  · have hcode := loC_no hok
    rw [hok] at HL
    generalize (loC (famB s kind p k g col n1 sz n2 lv) (hasB size sz) (inR level 0 ((n2 : Int) - 1)) (layOf kind p k g col size (nth lv level.toNat))) = C at *
    clear hok
    rcases hcode with rfl | rfl | rfl
    all_goals
      go_enter Try.func22, Try.ntmps22
      go_wp2_with fail
      (go_at_call 14; refine (HL.out _ (by (repeat (first | (with_reducible assumption) | (with_reducible exact Below.refl _ _) | (with_reducible refine below_drewN' ?_ _) | (with_reducible refine Below.drew ?_) | ((with_reducible refine Below.alloc ?_ ?_ _); rotate_left; focus (first | (simp; done) | (simp; omega) | omega)) | ((with_reducible refine Below.setCell ?_ ?_ _); rotate_left; focus (first | (simp; done) | (simp; omega) | omega)))))).mono ?_; rintro e1 w1 ⟨rfl, hb1⟩; obtain ⟨hc1, hf1⟩ := bcell hb1; have hB1 : Below w.heap.size w w1 := (below_then (by first | (go_grown; done) | (repeat (first | (with_reducible assumption) | (with_reducible exact Below.refl _ _) | (with_reducible refine below_drewN' ?_ _) | (with_reducible refine Below.drew ?_) | ((with_reducible refine Below.alloc ?_ ?_ _); rotate_left; focus (first | (simp; done) | (simp; omega) | omega)) | ((with_reducible refine Below.setCell ?_ ?_ _); rotate_left; focus (first | (simp; done) | (simp; omega) | omega))))) (by first | omega | (simp; done) | (simp; omega)) hb1); have hz1a : w.heap.size < w1.heap.size := (by have := hb1.size; first | omega | (simp at this; omega)))
      go_wp2_with fail
      go_returns
      exact ⟨by first | rfl | simp [loI], by (repeat (first | (with_reducible assumption) | (with_reducible exact Below.refl _ _) | (with_reducible refine below_drewN' ?_ _) | (with_reducible refine Below.drew ?_) | ((with_reducible refine Below.alloc ?_ ?_ _); rotate_left; focus (first | (simp; done) | (simp; omega) | omega)) | ((with_reducible refine Below.setCell ?_ ?_ _); rotate_left; focus (first | (simp; done) | (simp; omega) | omega))))⟩
  · obtain ⟨hcode, hfamT, hlayT⟩ := loC_yes hok
    have hfldT := lay_field hlayT
    rw [hok, hcode] at HL
    rw [hcode]
    clear hok hcode hfamT
    have hbd := lay_room (kind := kind) (p := p) (k := k) (g := g) (col := col) (size := size) (l := nth lv level.toNat) hlayT hfldT
    have HW := Lib.hid (fun w => FieldWidth_any p k g w hfldT)
    generalize layDat kind p k col size (nth lv level.toNat) = VD at *
    generalize ((layChk kind p k col size (nth lv level.toNat) : Nat) : Int) = VH at *
    generalize ((layCnt kind p k col size : Nat) : Int) = VC at *
    generalize widV (fsize p k) = WV at *
    obtain ⟨hb1', hb2', hb3'⟩ := hbd
    have hz0 : loI true (VD * WV) = VD * WV := rfl
    rw [hz0]
    simp only [loI, cond_true] at HL
    generalize hPP : VD * WV = PP at *
    go_enter Try.func22, Try.ntmps22
    go_wp2_with fail
    (go_at_call 14; refine (HL.out _ (by (repeat (first | (with_reducible assumption) | (with_reducible exact Below.refl _ _) | (with_reducible refine below_drewN' ?_ _) | (with_reducible refine Below.drew ?_) | ((with_reducible refine Below.alloc ?_ ?_ _); rotate_left; focus (first | (simp; done) | (simp; omega) | omega)) | ((with_reducible refine Below.setCell ?_ ?_ _); rotate_left; focus (first | (simp; done) | (simp; omega) | omega)))))).mono ?_; rintro e1 w1 ⟨rfl, hb1⟩; obtain ⟨hc1, hf1⟩ := bcell hb1; have hB1 : Below w.heap.size w w1 := (below_then (by first | (go_grown; done) | (repeat (first | (with_reducible assumption) | (with_reducible exact Below.refl _ _) | (with_reducible refine below_drewN' ?_ _) | (with_reducible refine Below.drew ?_) | ((with_reducible refine Below.alloc ?_ ?_ _); rotate_left; focus (first | (simp; done) | (simp; omega) | omega)) | ((with_reducible refine Below.setCell ?_ ?_ _); rotate_left; focus (first | (simp; done) | (simp; omega) | omega))))) (by first | omega | (simp; done) | (simp; omega)) hb1); have hz1a : w.heap.size < w1.heap.size := (by have := hb1.size; first | omega | (simp at this; omega)))
    have hh1 := blk_below (heap_alloc_new w (.cells #[.string s, .int .i64 kind, .int .i64 p, .int .i64 k, .int .i64 g, .slice A1 n1 c1, .int .i64 col, .slice A2 n2 c2] 34)) hb1 (by simp)
    obtain ⟨y0, y1, y2, y3, y4, y5, y6, y7, -⟩ := blk8 hh1
    clear hc1 hf1 hlayT hfldT
    go_wp2_with fail
    refine wp_region_qat [] 8 [] (by kernel_rfl) (by kernel_rfl) ?_
    intro hbc
    simp only [List.take_succ_cons, List.take_zero, List.drop_succ_cons, List.drop_zero]
    repeat (first
      | refine wpQ_pass rfl ?_
      | (refine wpQ_step rfl (fun K hK => ?_)
         go_simp
         first
           | (refine hK _ ?_; clear hK K)
           | (apply Exists.intro
              refine ⟨fun z => ?_, ?_⟩
              focus (first | (go_at_call 24; exact HW.out _))
              refine hK _ ?_
              clear hK K)))
    refine wpQ_nil ⟨?_, ?_⟩
    · exact rfl
    intro  w2 hb2 hF2
    clear hbc
    obtain ⟨hc2, hf2⟩ := bcell hb2
    have hB2 : Below w.heap.size w w2 := below_then (by first | (go_grown; done) | (repeat (first | (with_reducible assumption) | (with_reducible exact Below.refl _ _) | (with_reducible refine below_drewN' ?_ _) | (with_reducible refine Below.drew ?_) | ((with_reducible refine Below.alloc ?_ ?_ _); rotate_left; focus (first | (simp; done) | (simp; omega) | omega)) | ((with_reducible refine Below.setCell ?_ ?_ _); rotate_left; focus (first | (simp; done) | (simp; omega) | omega))))) (by first | (simp; done) | (simp; omega) | omega) hb2
    have hz2a : w.heap.size < w2.heap.size := (by have := hb2.size; first | omega | (simp at this; omega))
    clear hF2
    try simp only [Act.put, List.setIfInBounds_toArray, List.set_cons_succ, List.set_cons_zero]
    go_wp2_with fail
    go_returns
    exact ⟨by first | rfl | simp, by (repeat (first | (with_reducible assumption) | (with_reducible exact Below.refl _ _) | (with_reducible refine below_drewN' ?_ _) | (with_reducible refine Below.drew ?_) | ((with_reducible refine Below.alloc ?_ ?_ _); rotate_left; focus (first | (simp; done) | (simp; omega) | omega)) | ((with_reducible refine Below.setCell ?_ ?_ _); rotate_left; focus (first | (simp; done) | (simp; omega) | omega))))⟩

set_option maxHeartbeats 4000000 in
theorem sRoomOf_any (s : ByteArray) (kind p k g col : Int) (A1 A2 : Option Addr) (n1 c1 n2 c2 : Nat) (sz lv : List Int) (size level : Int) (w : World) (B : Nat) (hF : FamOk w B s A1 n1 sz A2 n2 lv) (hB : B ≤ w.heap.size) :
    Calls Try.prog 44 #[.agg #[.string s, .int .i64 kind, .int .i64 p, .int .i64 k, .int .i64 g, .slice A1 n1 c1, .int .i64 col, .slice A2 n2 c2], .int .i64 size, .int .i64 level] w fun e w' => e = .returned (.tuple #[.int .i64 (loI (loB (famB s kind p k g col n1 sz n2 lv) (hasB size sz) (inR level 0 ((n2 : Int) - 1)) (layOf kind p k g col size (nth lv level.toNat))) (layDat kind p k col size (nth lv level.toNat) * widV (fsize p k))), .int .i64 (loC (famB s kind p k g col n1 sz n2 lv) (hasB size sz) (inR level 0 ((n2 : Int) - 1)) (layOf kind p k g col size (nth lv level.toNat)))]) ∧ Below w.heap.size w w' := by
  have HL := Lib.hid (fun (w' : World) (hb : Below w.heap.size w w') => sLayoutOf_any s kind p k g col A1 A2 n1 c1 n2 c2 sz lv size level w' w.heap.size ((hF.more hB).below hb) hb.size)
  clear hF
  cases hok : (loB (famB s kind p k g col n1 sz n2 lv) (hasB size sz) (inR level 0 ((n2 : Int) - 1)) (layOf kind p k g col size (nth lv level.toNat)))
  · have hcode := loC_no hok
    rw [hok] at HL
    generalize (loC (famB s kind p k g col n1 sz n2 lv) (hasB size sz) (inR level 0 ((n2 : Int) - 1)) (layOf kind p k g col size (nth lv level.toNat))) = C at *
    clear hok
    rcases hcode with rfl | rfl | rfl
    all_goals
      go_enter Try.func44, Try.ntmps44
      go_wp2_with fail
      (go_at_call 12; refine (HL.out _ (by (repeat (first | (with_reducible assumption) | (with_reducible exact Below.refl _ _) | (with_reducible refine below_drewN' ?_ _) | (with_reducible refine Below.drew ?_) | ((with_reducible refine Below.alloc ?_ ?_ _); rotate_left; focus (first | (simp; done) | (simp; omega) | omega)) | ((with_reducible refine Below.setCell ?_ ?_ _); rotate_left; focus (first | (simp; done) | (simp; omega) | omega)))))).mono ?_; rintro e1 w1 ⟨rfl, hb1⟩; obtain ⟨hc1, hf1⟩ := bcell hb1; have hB1 : Below w.heap.size w w1 := (below_then (by first | (go_grown; done) | (repeat (first | (with_reducible assumption) | (with_reducible exact Below.refl _ _) | (with_reducible refine below_drewN' ?_ _) | (with_reducible refine Below.drew ?_) | ((with_reducible refine Below.alloc ?_ ?_ _); rotate_left; focus (first | (simp; done) | (simp; omega) | omega)) | ((with_reducible refine Below.setCell ?_ ?_ _); rotate_left; focus (first | (simp; done) | (simp; omega) | omega))))) (by first | omega | (simp; done) | (simp; omega)) hb1); have hz1a : w.heap.size < w1.heap.size := (by have := hb1.size; first | omega | (simp at this; omega)))
      go_wp2_with fail
      go_returns
      exact ⟨by first | rfl | simp [loI], by (repeat (first | (with_reducible assumption) | (with_reducible exact Below.refl _ _) | (with_reducible refine below_drewN' ?_ _) | (with_reducible refine Below.drew ?_) | ((with_reducible refine Below.alloc ?_ ?_ _); rotate_left; focus (first | (simp; done) | (simp; omega) | omega)) | ((with_reducible refine Below.setCell ?_ ?_ _); rotate_left; focus (first | (simp; done) | (simp; omega) | omega))))⟩
  · obtain ⟨hcode, hfamT, hlayT⟩ := loC_yes hok
    have hfldT := lay_field hlayT
    rw [hok, hcode] at HL
    rw [hcode]
    clear hok hcode hfamT
    have hbd := lay_room (kind := kind) (p := p) (k := k) (g := g) (col := col) (size := size) (l := nth lv level.toNat) hlayT hfldT
    have HW := Lib.hid (fun w => l11Width_any p k g w hfldT)
    generalize layDat kind p k col size (nth lv level.toNat) = VD at *
    generalize ((layChk kind p k col size (nth lv level.toNat) : Nat) : Int) = VH at *
    generalize ((layCnt kind p k col size : Nat) : Int) = VC at *
    generalize widV (fsize p k) = WV at *
    obtain ⟨hb1', hb2', hb3'⟩ := hbd
    have hz0 : loI true (VD * WV) = VD * WV := rfl
    rw [hz0]
    simp only [loI, cond_true] at HL
    generalize hPP : VD * WV = PP at *
    go_enter Try.func44, Try.ntmps44
    go_wp2_with fail
    (go_at_call 12; refine (HL.out _ (by (repeat (first | (with_reducible assumption) | (with_reducible exact Below.refl _ _) | (with_reducible refine below_drewN' ?_ _) | (with_reducible refine Below.drew ?_) | ((with_reducible refine Below.alloc ?_ ?_ _); rotate_left; focus (first | (simp; done) | (simp; omega) | omega)) | ((with_reducible refine Below.setCell ?_ ?_ _); rotate_left; focus (first | (simp; done) | (simp; omega) | omega)))))).mono ?_; rintro e1 w1 ⟨rfl, hb1⟩; obtain ⟨hc1, hf1⟩ := bcell hb1; have hB1 : Below w.heap.size w w1 := (below_then (by first | (go_grown; done) | (repeat (first | (with_reducible assumption) | (with_reducible exact Below.refl _ _) | (with_reducible refine below_drewN' ?_ _) | (with_reducible refine Below.drew ?_) | ((with_reducible refine Below.alloc ?_ ?_ _); rotate_left; focus (first | (simp; done) | (simp; omega) | omega)) | ((with_reducible refine Below.setCell ?_ ?_ _); rotate_left; focus (first | (simp; done) | (simp; omega) | omega))))) (by first | omega | (simp; done) | (simp; omega)) hb1); have hz1a : w.heap.size < w1.heap.size := (by have := hb1.size; first | omega | (simp at this; omega)))
    have hh1 := blk_below (heap_alloc_new w (.cells #[.string s, .int .i64 kind, .int .i64 p, .int .i64 k, .int .i64 g, .slice A1 n1 c1, .int .i64 col, .slice A2 n2 c2] 34)) hb1 (by simp)
    obtain ⟨y0, y1, y2, y3, y4, y5, y6, y7, -⟩ := blk8 hh1
    clear hc1 hf1 hlayT hfldT
    go_wp2_with fail
    refine wp_region_qat [] 8 [] (by kernel_rfl) (by kernel_rfl) ?_
    intro hbc
    simp only [List.take_succ_cons, List.take_zero, List.drop_succ_cons, List.drop_zero]
    repeat (first
      | refine wpQ_pass rfl ?_
      | (refine wpQ_step rfl (fun K hK => ?_)
         go_simp
         first
           | (refine hK _ ?_; clear hK K)
           | (apply Exists.intro
              refine ⟨fun z => ?_, ?_⟩
              focus (first | (go_at_call 87; exact HW.out _))
              refine hK _ ?_
              clear hK K)))
    refine wpQ_nil ⟨?_, ?_⟩
    · exact rfl
    intro  w2 hb2 hF2
    clear hbc
    obtain ⟨hc2, hf2⟩ := bcell hb2
    have hB2 : Below w.heap.size w w2 := below_then (by first | (go_grown; done) | (repeat (first | (with_reducible assumption) | (with_reducible exact Below.refl _ _) | (with_reducible refine below_drewN' ?_ _) | (with_reducible refine Below.drew ?_) | ((with_reducible refine Below.alloc ?_ ?_ _); rotate_left; focus (first | (simp; done) | (simp; omega) | omega)) | ((with_reducible refine Below.setCell ?_ ?_ _); rotate_left; focus (first | (simp; done) | (simp; omega) | omega))))) (by first | (simp; done) | (simp; omega) | omega) hb2
    have hz2a : w.heap.size < w2.heap.size := (by have := hb2.size; first | omega | (simp at this; omega))
    clear hF2
    try simp only [Act.put, List.setIfInBounds_toArray, List.set_cons_succ, List.set_cons_zero]
    go_wp2_with fail
    go_returns
    exact ⟨by first | rfl | simp, by (repeat (first | (with_reducible assumption) | (with_reducible exact Below.refl _ _) | (with_reducible refine below_drewN' ?_ _) | (with_reducible refine Below.drew ?_) | ((with_reducible refine Below.alloc ?_ ?_ _); rotate_left; focus (first | (simp; done) | (simp; omega) | omega)) | ((with_reducible refine Below.setCell ?_ ?_ _); rotate_left; focus (first | (simp; done) | (simp; omega) | omega))))⟩

set_option maxHeartbeats 4000000 in
theorem ErrorRoom_any (s : ByteArray) (kind p k g col : Int) (A1 A2 : Option Addr) (n1 c1 n2 c2 : Nat) (sz lv : List Int) (size level : Int) (w : World) (B : Nat) (hF : FamOk w B s A1 n1 sz A2 n2 lv) (hB : B ≤ w.heap.size) :
    Calls Try.prog 23 #[.agg #[.string s, .int .i64 kind, .int .i64 p, .int .i64 k, .int .i64 g, .slice A1 n1 c1, .int .i64 col, .slice A2 n2 c2], .int .i64 size, .int .i64 level] w fun e w' => e = .returned (.tuple #[.int .i64 (loI (loB (famB s kind p k g col n1 sz n2 lv) (hasB size sz) (inR level 0 ((n2 : Int) - 1)) (layOf kind p k g col size (nth lv level.toNat))) (layChk kind p k col size (nth lv level.toNat) / 2 : Nat)), .int .i64 (loC (famB s kind p k g col n1 sz n2 lv) (hasB size sz) (inR level 0 ((n2 : Int) - 1)) (layOf kind p k g col size (nth lv level.toNat)))]) ∧ Below w.heap.size w w' := by
  have HL := Lib.hid (fun (w' : World) (hb : Below w.heap.size w w') => LayoutOf_any s kind p k g col A1 A2 n1 c1 n2 c2 sz lv size level w' w.heap.size ((hF.more hB).below hb) hb.size)
  clear hF
  cases hok : (loB (famB s kind p k g col n1 sz n2 lv) (hasB size sz) (inR level 0 ((n2 : Int) - 1)) (layOf kind p k g col size (nth lv level.toNat)))
  · have hcode := loC_no hok
    rw [hok] at HL
    generalize (loC (famB s kind p k g col n1 sz n2 lv) (hasB size sz) (inR level 0 ((n2 : Int) - 1)) (layOf kind p k g col size (nth lv level.toNat))) = C at *
    clear hok
    rcases hcode with rfl | rfl | rfl
    all_goals
      go_enter Try.func23, Try.ntmps23
      go_wp2_with fail
      (go_at_call 14; refine (HL.out _ (by (repeat (first | (with_reducible assumption) | (with_reducible exact Below.refl _ _) | (with_reducible refine below_drewN' ?_ _) | (with_reducible refine Below.drew ?_) | ((with_reducible refine Below.alloc ?_ ?_ _); rotate_left; focus (first | (simp; done) | (simp; omega) | omega)) | ((with_reducible refine Below.setCell ?_ ?_ _); rotate_left; focus (first | (simp; done) | (simp; omega) | omega)))))).mono ?_; rintro e1 w1 ⟨rfl, hb1⟩; obtain ⟨hc1, hf1⟩ := bcell hb1; have hB1 : Below w.heap.size w w1 := (below_then (by first | (go_grown; done) | (repeat (first | (with_reducible assumption) | (with_reducible exact Below.refl _ _) | (with_reducible refine below_drewN' ?_ _) | (with_reducible refine Below.drew ?_) | ((with_reducible refine Below.alloc ?_ ?_ _); rotate_left; focus (first | (simp; done) | (simp; omega) | omega)) | ((with_reducible refine Below.setCell ?_ ?_ _); rotate_left; focus (first | (simp; done) | (simp; omega) | omega))))) (by first | omega | (simp; done) | (simp; omega)) hb1); have hz1a : w.heap.size < w1.heap.size := (by have := hb1.size; first | omega | (simp at this; omega)))
      go_wp2_with fail
      go_returns
      exact ⟨by first | rfl | simp [loI], by (repeat (first | (with_reducible assumption) | (with_reducible exact Below.refl _ _) | (with_reducible refine below_drewN' ?_ _) | (with_reducible refine Below.drew ?_) | ((with_reducible refine Below.alloc ?_ ?_ _); rotate_left; focus (first | (simp; done) | (simp; omega) | omega)) | ((with_reducible refine Below.setCell ?_ ?_ _); rotate_left; focus (first | (simp; done) | (simp; omega) | omega))))⟩
  · obtain ⟨hcode, hfamT, hlayT⟩ := loC_yes hok
    have hfldT := lay_field hlayT
    rw [hok, hcode] at HL
    rw [hcode]
    clear hok hcode hfamT
    have hVH : layChk kind p k col size (nth lv level.toNat) ≤ 64 := (kN_bd _ _ _).2
    generalize layChk kind p k col size (nth lv level.toNat) = VHN at *
    have hVH2 : VHN / 2 ≤ 64 := by omega
    have hq2 : (VHN : Int) / 2 = ((VHN / 2 : Nat) : Int) := by simp
    generalize VHN / 2 = VH2 at *
    have hz0 : loI true (VH2 : Int) = (VH2 : Int) := rfl
    rw [hz0]
    generalize layDat kind p k col size (nth lv level.toNat) = VD at *
    generalize ((layCnt kind p k col size : Nat) : Int) = VC at *
    simp only [loI, cond_true] at HL
    go_enter Try.func23, Try.ntmps23
    go_wp2_with fail
    (go_at_call 14; refine (HL.out _ (by (repeat (first | (with_reducible assumption) | (with_reducible exact Below.refl _ _) | (with_reducible refine below_drewN' ?_ _) | (with_reducible refine Below.drew ?_) | ((with_reducible refine Below.alloc ?_ ?_ _); rotate_left; focus (first | (simp; done) | (simp; omega) | omega)) | ((with_reducible refine Below.setCell ?_ ?_ _); rotate_left; focus (first | (simp; done) | (simp; omega) | omega)))))).mono ?_; rintro e1 w1 ⟨rfl, hb1⟩; obtain ⟨hc1, hf1⟩ := bcell hb1; have hB1 : Below w.heap.size w w1 := (below_then (by first | (go_grown; done) | (repeat (first | (with_reducible assumption) | (with_reducible exact Below.refl _ _) | (with_reducible refine below_drewN' ?_ _) | (with_reducible refine Below.drew ?_) | ((with_reducible refine Below.alloc ?_ ?_ _); rotate_left; focus (first | (simp; done) | (simp; omega) | omega)) | ((with_reducible refine Below.setCell ?_ ?_ _); rotate_left; focus (first | (simp; done) | (simp; omega) | omega))))) (by first | omega | (simp; done) | (simp; omega)) hb1); have hz1a : w.heap.size < w1.heap.size := (by have := hb1.size; first | omega | (simp at this; omega)))
    go_wp2_with fail
    go_returns
    exact ⟨by first | rfl | simp [hq2], by (repeat (first | (with_reducible assumption) | (with_reducible exact Below.refl _ _) | (with_reducible refine below_drewN' ?_ _) | (with_reducible refine Below.drew ?_) | ((with_reducible refine Below.alloc ?_ ?_ _); rotate_left; focus (first | (simp; done) | (simp; omega) | omega)) | ((with_reducible refine Below.setCell ?_ ?_ _); rotate_left; focus (first | (simp; done) | (simp; omega) | omega))))⟩

set_option maxHeartbeats 4000000 in
theorem sErrorRoom_any (s : ByteArray) (kind p k g col : Int) (A1 A2 : Option Addr) (n1 c1 n2 c2 : Nat) (sz lv : List Int) (size level : Int) (w : World) (B : Nat) (hF : FamOk w B s A1 n1 sz A2 n2 lv) (hB : B ≤ w.heap.size) :
    Calls Try.prog 43 #[.agg #[.string s, .int .i64 kind, .int .i64 p, .int .i64 k, .int .i64 g, .slice A1 n1 c1, .int .i64 col, .slice A2 n2 c2], .int .i64 size, .int .i64 level] w fun e w' => e = .returned (.tuple #[.int .i64 (loI (loB (famB s kind p k g col n1 sz n2 lv) (hasB size sz) (inR level 0 ((n2 : Int) - 1)) (layOf kind p k g col size (nth lv level.toNat))) (layChk kind p k col size (nth lv level.toNat) / 2 : Nat)), .int .i64 (loC (famB s kind p k g col n1 sz n2 lv) (hasB size sz) (inR level 0 ((n2 : Int) - 1)) (layOf kind p k g col size (nth lv level.toNat)))]) ∧ Below w.heap.size w w' := by
  have HL := Lib.hid (fun (w' : World) (hb : Below w.heap.size w w') => sLayoutOf_any s kind p k g col A1 A2 n1 c1 n2 c2 sz lv size level w' w.heap.size ((hF.more hB).below hb) hb.size)
  clear hF
  cases hok : (loB (famB s kind p k g col n1 sz n2 lv) (hasB size sz) (inR level 0 ((n2 : Int) - 1)) (layOf kind p k g col size (nth lv level.toNat)))
  · have hcode := loC_no hok
    rw [hok] at HL
    generalize (loC (famB s kind p k g col n1 sz n2 lv) (hasB size sz) (inR level 0 ((n2 : Int) - 1)) (layOf kind p k g col size (nth lv level.toNat))) = C at *
    clear hok
    rcases hcode with rfl | rfl | rfl
    all_goals
      go_enter Try.func43, Try.ntmps43
      go_wp2_with fail
      (go_at_call 12; refine (HL.out _ (by (repeat (first | (with_reducible assumption) | (with_reducible exact Below.refl _ _) | (with_reducible refine below_drewN' ?_ _) | (with_reducible refine Below.drew ?_) | ((with_reducible refine Below.alloc ?_ ?_ _); rotate_left; focus (first | (simp; done) | (simp; omega) | omega)) | ((with_reducible refine Below.setCell ?_ ?_ _); rotate_left; focus (first | (simp; done) | (simp; omega) | omega)))))).mono ?_; rintro e1 w1 ⟨rfl, hb1⟩; obtain ⟨hc1, hf1⟩ := bcell hb1; have hB1 : Below w.heap.size w w1 := (below_then (by first | (go_grown; done) | (repeat (first | (with_reducible assumption) | (with_reducible exact Below.refl _ _) | (with_reducible refine below_drewN' ?_ _) | (with_reducible refine Below.drew ?_) | ((with_reducible refine Below.alloc ?_ ?_ _); rotate_left; focus (first | (simp; done) | (simp; omega) | omega)) | ((with_reducible refine Below.setCell ?_ ?_ _); rotate_left; focus (first | (simp; done) | (simp; omega) | omega))))) (by first | omega | (simp; done) | (simp; omega)) hb1); have hz1a : w.heap.size < w1.heap.size := (by have := hb1.size; first | omega | (simp at this; omega)))
      go_wp2_with fail
      go_returns
      exact ⟨by first | rfl | simp [loI], by (repeat (first | (with_reducible assumption) | (with_reducible exact Below.refl _ _) | (with_reducible refine below_drewN' ?_ _) | (with_reducible refine Below.drew ?_) | ((with_reducible refine Below.alloc ?_ ?_ _); rotate_left; focus (first | (simp; done) | (simp; omega) | omega)) | ((with_reducible refine Below.setCell ?_ ?_ _); rotate_left; focus (first | (simp; done) | (simp; omega) | omega))))⟩
  · obtain ⟨hcode, hfamT, hlayT⟩ := loC_yes hok
    have hfldT := lay_field hlayT
    rw [hok, hcode] at HL
    rw [hcode]
    clear hok hcode hfamT
    have hVH : layChk kind p k col size (nth lv level.toNat) ≤ 64 := (kN_bd _ _ _).2
    generalize layChk kind p k col size (nth lv level.toNat) = VHN at *
    have hVH2 : VHN / 2 ≤ 64 := by omega
    have hq2 : (VHN : Int) / 2 = ((VHN / 2 : Nat) : Int) := by simp
    generalize VHN / 2 = VH2 at *
    have hz0 : loI true (VH2 : Int) = (VH2 : Int) := rfl
    rw [hz0]
    generalize layDat kind p k col size (nth lv level.toNat) = VD at *
    generalize ((layCnt kind p k col size : Nat) : Int) = VC at *
    simp only [loI, cond_true] at HL
    go_enter Try.func43, Try.ntmps43
    go_wp2_with fail
    (go_at_call 12; refine (HL.out _ (by (repeat (first | (with_reducible assumption) | (with_reducible exact Below.refl _ _) | (with_reducible refine below_drewN' ?_ _) | (with_reducible refine Below.drew ?_) | ((with_reducible refine Below.alloc ?_ ?_ _); rotate_left; focus (first | (simp; done) | (simp; omega) | omega)) | ((with_reducible refine Below.setCell ?_ ?_ _); rotate_left; focus (first | (simp; done) | (simp; omega) | omega)))))).mono ?_; rintro e1 w1 ⟨rfl, hb1⟩; obtain ⟨hc1, hf1⟩ := bcell hb1; have hB1 : Below w.heap.size w w1 := (below_then (by first | (go_grown; done) | (repeat (first | (with_reducible assumption) | (with_reducible exact Below.refl _ _) | (with_reducible refine below_drewN' ?_ _) | (with_reducible refine Below.drew ?_) | ((with_reducible refine Below.alloc ?_ ?_ _); rotate_left; focus (first | (simp; done) | (simp; omega) | omega)) | ((with_reducible refine Below.setCell ?_ ?_ _); rotate_left; focus (first | (simp; done) | (simp; omega) | omega))))) (by first | omega | (simp; done) | (simp; omega)) hb1); have hz1a : w.heap.size < w1.heap.size := (by have := hb1.size; first | omega | (simp at this; omega)))
    go_wp2_with fail
    go_returns
    exact ⟨by first | rfl | simp [hq2], by (repeat (first | (with_reducible assumption) | (with_reducible exact Below.refl _ _) | (with_reducible refine below_drewN' ?_ _) | (with_reducible refine Below.drew ?_) | ((with_reducible refine Below.alloc ?_ ?_ _); rotate_left; focus (first | (simp; done) | (simp; omega) | omega)) | ((with_reducible refine Below.setCell ?_ ?_ _); rotate_left; focus (first | (simp; done) | (simp; omega) | omega))))⟩

end Go.Proofs.Ytbgcbjfimjfbpaa
