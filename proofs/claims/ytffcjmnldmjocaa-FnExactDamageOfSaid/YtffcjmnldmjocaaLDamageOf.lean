/-
  The row FnExactDamageOf: for every code, words and erasures the program's DamageOf returns what the reference's returns, and leaves the lists as they were; no condition.
-/
import Derived.Test.YtffcjmnldmjocaaC05F
import Derived.Test.YtffcjmnldmjocaaArgG
namespace Go.Proofs.Ytffcjmnldmjocaa
set_option linter.unusedSimpArgs false
open Go.ChangeShapes Go.WideShapes Go.ChangeAt Go.RowKit Go.Deep

theorem toField_any (p k g : Int) (w : World) :
    Calls Try.prog 38 #[.agg #[.int .i64 p, .int .i64 k, .int .i64 g]] w fun e w' => e = .returned (.agg #[.int .i64 p, .int .i64 k, .int .i64 g]) ∧ Below w.heap.size w w' := by
  go_enter Try.func38, Try.ntmps38
  go_wp2_with fail
  (try simp only [Exit.inBlock, Exit.then]); refine bodyPost_ret (by simp [results, Try.results38, go_sem, ]; try rfl) rfl ?_
  exact ⟨rfl, by (repeat (first | (with_reducible assumption) | (with_reducible exact Below.refl _ _) | (with_reducible refine below_drewN' ?_ _) | (with_reducible refine Below.drew ?_) | ((with_reducible refine Below.alloc ?_ ?_ _); rotate_left; focus (first | (simp; done) | (simp; omega) | omega)) | ((with_reducible refine Below.setCell ?_ ?_ _); rotate_left; focus (first | (simp; done) | (simp; omega) | omega))))⟩
set_option maxHeartbeats 2000000 in
theorem toCode_any (p k g len chk : Int) (w : World) :
    Calls Try.prog 13 #[.agg #[.int .i64 p, .int .i64 k, .int .i64 g, .int .i64 len, .int .i64 chk]] w fun e w' => e = .returned (.agg #[.int .i64 p, .int .i64 k, .int .i64 g, .int .i64 len, .int .i64 chk]) ∧ Below w.heap.size w w' := by
  have HE := Lib.hid (fun w => toField_any p k g w)
  go_enter Try.func13, Try.ntmps13
  go_wp2_with fail
  (go_at_call 38; with_reducible refine (HE.out _).mono ?_; rintro e1 w1 ⟨rfl, hb1⟩; obtain ⟨hc1, hf1⟩ := bcell hb1; have hB1 : Below w.heap.size w w1 := (below_then (by first | (go_grown; done) | (repeat (first | (with_reducible assumption) | (with_reducible exact Below.refl _ _) | (with_reducible refine below_drewN' ?_ _) | (with_reducible refine Below.drew ?_) | ((with_reducible refine Below.alloc ?_ ?_ _); rotate_left; focus (first | (simp; done) | (simp; omega) | omega)) | ((with_reducible refine Below.setCell ?_ ?_ _); rotate_left; focus (first | (simp; done) | (simp; omega) | omega))))) (by first | omega | (simp; done) | (simp; omega)) hb1); have hz1a : w.heap.size < w1.heap.size := (by have := hb1.size; first | omega | (simp at this; omega)); have hz1b : w.heap.size + 1 < w1.heap.size := (by have := hb1.size; first | omega | (simp at this; omega)); have hz1c : w.heap.size + 1 + 1 < w1.heap.size := (by have := hb1.size; first | omega | (simp at this; omega)))
  have hP1 : w1.heap[w.heap.size]? = some (.cells #[.int .i64 p, .int .i64 k, .int .i64 g, .int .i64 len, .int .i64 chk] 33 (0, 0)) := by
    refine blk_below ?_ hb1 (by first | (simp; done) | (simp; omega))
    (repeat (first | (with_reducible exact heap_alloc_new _ _) | (rw [heap_drew1]) | (rw [heap_drewN1]) | (rw [Below.heap_setCell _ _ _ _ (by first | omega | (simp; done) | (simp; omega))]) | (rw [Below.heap_alloc _ _ _ (by first | omega | (simp; done) | (simp; omega))]) | (exact heap_alloc_at (by first | omega | (simp; done) | (simp; omega)))))
  have hR1 : w1.heap[w.heap.size + 1]? = some (.cells #[.int .i64 0, .int .i64 0, .int .i64 0, .int .i64 0, .int .i64 0] 39 (0, 0)) := by
    refine blk_below ?_ hb1 (by first | (simp; done) | (simp; omega))
    (repeat (first | (with_reducible exact heap_alloc_new _ _) | (rw [heap_drew1]) | (rw [heap_drewN1]) | (rw [Below.heap_setCell _ _ _ _ (by first | omega | (simp; done) | (simp; omega))]) | (rw [Below.heap_alloc _ _ _ (by first | omega | (simp; done) | (simp; omega))]) | (exact heap_alloc_at (by first | omega | (simp; done) | (simp; omega)))))
  have hT1 : w1.heap[w.heap.size + 1 + 1]? = some (.cells #[.int .i64 0, .int .i64 0, .int .i64 0, .int .i64 0, .int .i64 0] 39 (0, 0)) := by
    refine blk_below ?_ hb1 (by first | (simp; done) | (simp; omega))
    (repeat (first | (with_reducible exact heap_alloc_new _ _) | (rw [heap_drew1]) | (rw [heap_drewN1]) | (rw [Below.heap_setCell _ _ _ _ (by first | omega | (simp; done) | (simp; omega))]) | (rw [Below.heap_alloc _ _ _ (by first | omega | (simp; done) | (simp; omega))]) | (exact heap_alloc_at (by first | omega | (simp; done) | (simp; omega)))))
  obtain ⟨p0, p1, p2, p3, p4, -⟩ := blk5 hP1
  obtain ⟨t0, t1, t2, t3, t4, tf⟩ := blk5 hT1
  obtain ⟨z0, z1, z2, z3, z4, zf⟩ := blk5 hR1
  have HR1 := Lib.hid hR1
  have HT1 := Lib.hid hT1
  clear hc1 hf1 hP1 hT1 hR1
  go_upto_region 5 with (fail)
  have hQ := res5 HT1.out (.int .i64 p) (.int .i64 k) (.int .i64 g) (.int .i64 len) (.int .i64 chk)
  have hR2 : (((((w1.setCell ⟨w.heap.size + 1 + 1, 0, none⟩ (.int .i64 p)).setCell ⟨w.heap.size + 1 + 1, 1, none⟩ (.int .i64 k)).setCell ⟨w.heap.size + 1 + 1, 2, none⟩ (.int .i64 g)).setCell ⟨w.heap.size + 1 + 1, 3, none⟩ (.int .i64 len)).setCell ⟨w.heap.size + 1 + 1, 4, none⟩ (.int .i64 chk)).heap[w.heap.size + 1]? = some (.cells #[.int .i64 0, .int .i64 0, .int .i64 0, .int .i64 0, .int .i64 0] 39 (0, 0)) := by (repeat (first | (with_reducible exact HR1.out) | (with_reducible exact heap_alloc_new _ _) | (rw [heap_drew1]) | (rw [heap_drewN1]) | (rw [Below.heap_setCell _ _ _ _ (by first | omega | (simp; done) | (simp; omega))]) | (rw [Below.heap_alloc _ _ _ (by first | omega | (simp; done) | (simp; omega))]) | (exact heap_alloc_at (by first | omega | (simp; done) | (simp; omega)))))
  have hB5 : Below w.heap.size w (((((w1.setCell ⟨w.heap.size + 1 + 1, 0, none⟩ (.int .i64 p)).setCell ⟨w.heap.size + 1 + 1, 1, none⟩ (.int .i64 k)).setCell ⟨w.heap.size + 1 + 1, 2, none⟩ (.int .i64 g)).setCell ⟨w.heap.size + 1 + 1, 3, none⟩ (.int .i64 len)).setCell ⟨w.heap.size + 1 + 1, 4, none⟩ (.int .i64 chk)) := by (repeat (first | (with_reducible assumption) | (with_reducible exact Below.refl _ _) | (with_reducible refine below_drewN' ?_ _) | (with_reducible refine Below.drew ?_) | ((with_reducible refine Below.alloc ?_ ?_ _); rotate_left; focus (first | (simp; done) | (simp; omega) | omega)) | ((with_reducible refine Below.setCell ?_ ?_ _); rotate_left; focus (first | (simp; done) | (simp; omega) | omega))))
  have hs5 : (((((w1.setCell ⟨w.heap.size + 1 + 1, 0, none⟩ (.int .i64 p)).setCell ⟨w.heap.size + 1 + 1, 1, none⟩ (.int .i64 k)).setCell ⟨w.heap.size + 1 + 1, 2, none⟩ (.int .i64 g)).setCell ⟨w.heap.size + 1 + 1, 3, none⟩ (.int .i64 len)).setCell ⟨w.heap.size + 1 + 1, 4, none⟩ (.int .i64 chk)).heap.size = w1.heap.size := by simp
  generalize (((((w1.setCell ⟨w.heap.size + 1 + 1, 0, none⟩ (.int .i64 p)).setCell ⟨w.heap.size + 1 + 1, 1, none⟩ (.int .i64 k)).setCell ⟨w.heap.size + 1 + 1, 2, none⟩ (.int .i64 g)).setCell ⟨w.heap.size + 1 + 1, 3, none⟩ (.int .i64 len)).setCell ⟨w.heap.size + 1 + 1, 4, none⟩ (.int .i64 chk)) = W5 at hQ hR2 hB5 hs5 ⊢
  obtain ⟨s0, s1, s2, s3, s4, -⟩ := blk5 (res5 hR2 (.int .i64 p) (.int .i64 k) (.int .i64 g) (.int .i64 len) (.int .i64 chk))
  clear p0 p1 p2 p3 p4 t0 t1 t2 t3 t4 tf z0 z1 z2 z3 z4 zf
  obtain ⟨z0, z1, z2, z3, z4, zf⟩ := blk5 hR2
  obtain ⟨q0, q1, q2, q3, q4, -⟩ := blk5 hQ
  clear hQ hR2 hB1
  go_wp2_with fail
  (try simp only [Exit.inBlock, Exit.then]); refine bodyPost_ret (by simp [results, Try.results13, go_sem, s0, s1, s2, s3, s4]; try rfl) rfl ?_
  exact ⟨rfl, by (repeat (first | (with_reducible assumption) | (with_reducible exact Below.refl _ _) | (with_reducible refine below_drewN' ?_ _) | (with_reducible refine Below.drew ?_) | ((with_reducible refine Below.alloc ?_ ?_ _); rotate_left; focus (first | (simp; done) | (simp; omega) | omega)) | ((with_reducible refine Below.setCell ?_ ?_ _); rotate_left; focus (first | (simp; done) | (simp; omega) | omega))))⟩
theorem own_ri' {w : World} {n : Nat} (c : Nat) {A : Option Addr} {xs : List Int} (h : ∃ B, Own w B (.slice A n c) xs) : RI w w.heap.size A n xs := by
  obtain ⟨B, h⟩ := h
  obtain ⟨A', c', e, hr⟩ := h.shape
  simp only [Value.slice.injEq] at e
  obtain ⟨rfl, rfl, -⟩ := e
  exact hr
/-- A copy of a slice, told by what it reads as. -/
theorem copy_any (A : Option Addr) (n c : Nat) (xs : List Int) (w : World) (B : Nat) (hr : RI w B A n xs) (hB : B ≤ w.heap.size) (hn : n ≤ 1000000000000) :
    Calls Try.prog 14 #[.slice A n c] w fun e w' => ∃ A' c', e = .returned (.slice A' n c') ∧ RI w' w'.heap.size A' n xs ∧ Below w.heap.size w w' :=
  (toInt64S_any A n c xs w B hr hB hn).mono fun e w' ⟨v', he, ho, hb⟩ => by
    obtain ⟨A', c', rfl, hr'⟩ := ho.shape
    rw [hr.len] at *
    exact ⟨A', c', he, hr', hb⟩
theorem RI.up {w w' : World} {A : Option Addr} {n : Nat} {xs : List Int} (h : RI w w.heap.size A n xs) (hb : Below w.heap.size w w') : RI w' w'.heap.size A n xs := (h.below hb).more hb.size
set_option maxRecDepth 20000 in
set_option maxHeartbeats 8000000 in
theorem lawDamageOf (p k g len chk : Int) (n1 c1 n2 c2 n3 c3 : Nat) (A1 A2 A3 : Option Addr) (xs ys er : List Int) (w : World) (h1 : RI w w.heap.size A1 n1 xs) (h2 : RI w w.heap.size A2 n2 ys) (h3 : RI w w.heap.size A3 n3 er) (m1 : n1 ≤ 9223372036854775807) (m2 : n2 ≤ 9223372036854775807) (m3 : n3 ≤ 9223372036854775807) :
    Calls Try.prog 5 #[.agg #[.int .i64 p, .int .i64 k, .int .i64 g, .int .i64 len, .int .i64 chk], .slice A1 n1 c1, .slice A2 n2 c2, .slice A3 n3 c3] w fun e' w' => e' = .returned (.bool true) ∧ Below w.heap.size w w' := by
  by_cases l1 : n1 ≤ 1048576
  · by_cases l2 : n2 ≤ 1048576
    · by_cases l3 : n3 ≤ 1048576
      · have HTC := Lib.hid (fun w => toCode_any p k g len chk w)
        have HT1 := Lib.hid (fun (w' : World) (hb : Below w.heap.size w w') => copy_any A1 n1 c1 xs w' w.heap.size (h1.below hb) hb.size (by omega))
        have HT2 := Lib.hid (fun (w' : World) (hb : Below w.heap.size w w') => copy_any A2 n2 c2 ys w' w.heap.size (h2.below hb) hb.size (by omega))
        have HT3 := Lib.hid (fun (w' : World) (hb : Below w.heap.size w w') => copy_any A3 n3 c3 er w' w.heap.size (h3.below hb) hb.size (by omega))
        have s1 := fun (A1 A2 A3 : Option Addr) (c1 c2 c3 : Nat) (w : World) (h1 : RI w w.heap.size A1 n1 xs) (h2 : RI w w.heap.size A2 n2 ys) (h3 : RI w w.heap.size A3 n3 er) => sDamageOf_any p k g len chk n1 c1 n2 c2 n3 c3 A1 A2 A3 xs ys er w h1 h2 h3 (by omega) (by omega) (by omega)
        have s2 := fun (A1 A2 A3 : Option Addr) (c1 c2 c3 : Nat) (w : World) (h1 : RI w w.heap.size A1 n1 xs) (h2 : RI w w.heap.size A2 n2 ys) (h3 : RI w w.heap.size A3 n3 er) => DamageOf_any p k g len chk n1 c1 n2 c2 n3 c3 A1 A2 A3 xs ys er w h1 h2 h3 (by omega) (by omega) (by omega)
        generalize dmV (codeB p k g len chk) (wordB p k len xs && wordB p k len ys) (risB 0 (len - 1) er) ((n3 : Int) + dmgN xs ys er n1) = V at s1 s2
        generalize dmC (codeB p k g len chk) (wordB p k len xs && wordB p k len ys) (risB 0 (len - 1) er) = C at s1 s2
        have S1 := Lib.hid s1
        have S2 := Lib.hid s2
        clear s1 s2 h1 h2 h3
        have hV : (V != V) = false := by simp
        have hC : (C != C) = false := by simp
        have hE1 : (xs == xs) = true := by simp
        have hE2 : (ys == ys) = true := by simp
        have hE3 : (er == er) = true := by simp
        have HE1 := Lib.hid hE1
        have HE2 := Lib.hid hE2
        have HE3 := Lib.hid hE3
        clear hE1 hE2 hE3
        go_enter Try.func5, Try.ntmps5
        go_wp2_with fail
        (go_at_call 13; with_reducible refine (HTC.out _).mono ?_; rintro e1 w1 ⟨rfl, hb1⟩; obtain ⟨hc1, hf1⟩ := bcell hb1; have hB1 : Below w.heap.size w w1 := (below_then (by first | (go_grown; done) | (repeat (first | (with_reducible assumption) | (with_reducible exact Below.refl _ _) | (with_reducible refine below_drewN' ?_ _) | (with_reducible refine Below.drew ?_) | ((with_reducible refine Below.alloc ?_ ?_ _); rotate_left; focus (first | (simp; done) | (simp; omega) | omega)) | ((with_reducible refine Below.setCell ?_ ?_ _); rotate_left; focus (first | (simp; done) | (simp; omega) | omega))))) (by first | omega | (simp; done) | (simp; omega)) hb1); have hz1a : w.heap.size < w1.heap.size := (by have := hb1.size; first | omega | (simp at this; omega)))
        have hT1 := blk_below (heap_alloc_new w (.cells #[.int .i64 p, .int .i64 k, .int .i64 g, .int .i64 len, .int .i64 chk] 33)) hb1 (by simp)
        clear hc1 hf1
        go_wp2_with fail
        (go_at_call 14; refine (HT1.out _ (by (repeat (first | (with_reducible assumption) | (with_reducible exact Below.refl _ _) | (with_reducible refine below_drewN' ?_ _) | (with_reducible refine Below.drew ?_) | ((with_reducible refine Below.alloc ?_ ?_ _); rotate_left; focus (first | (simp; done) | (simp; omega) | omega)) | ((with_reducible refine Below.setCell ?_ ?_ _); rotate_left; focus (first | (simp; done) | (simp; omega) | omega)))))).mono ?_; rintro e2 w2 ⟨X2, d2, rfl, hr2, hb2⟩; have hB2 : Below w.heap.size w w2 := (below_then (by first | (go_grown; done) | (repeat (first | (with_reducible assumption) | (with_reducible exact Below.refl _ _) | (with_reducible refine below_drewN' ?_ _) | (with_reducible refine Below.drew ?_) | ((with_reducible refine Below.alloc ?_ ?_ _); rotate_left; focus (first | (simp; done) | (simp; omega) | omega)) | ((with_reducible refine Below.setCell ?_ ?_ _); rotate_left; focus (first | (simp; done) | (simp; omega) | omega))))) (by first | omega | (simp; done) | (simp; omega)) hb2); have hz2a : w.heap.size < w2.heap.size := (by have := hb2.size; first | omega | (simp at this; omega)))
        have hT2 := blk_below hT1 hb2 hz1a
        go_wp2_with fail
        (go_at_call 14; refine (HT2.out _ (by (repeat (first | (with_reducible assumption) | (with_reducible exact Below.refl _ _) | (with_reducible refine below_drewN' ?_ _) | (with_reducible refine Below.drew ?_) | ((with_reducible refine Below.alloc ?_ ?_ _); rotate_left; focus (first | (simp; done) | (simp; omega) | omega)) | ((with_reducible refine Below.setCell ?_ ?_ _); rotate_left; focus (first | (simp; done) | (simp; omega) | omega)))))).mono ?_; rintro e3 w3 ⟨X3, d3, rfl, hr3, hb3⟩; have hB3 : Below w.heap.size w w3 := (below_then (by first | (go_grown; done) | (repeat (first | (with_reducible assumption) | (with_reducible exact Below.refl _ _) | (with_reducible refine below_drewN' ?_ _) | (with_reducible refine Below.drew ?_) | ((with_reducible refine Below.alloc ?_ ?_ _); rotate_left; focus (first | (simp; done) | (simp; omega) | omega)) | ((with_reducible refine Below.setCell ?_ ?_ _); rotate_left; focus (first | (simp; done) | (simp; omega) | omega))))) (by first | omega | (simp; done) | (simp; omega)) hb3); have hz3a : w.heap.size < w3.heap.size := (by have := hb3.size; first | omega | (simp at this; omega)))
        have hT3 := blk_below hT2 hb3 hz2a
        have hr2 := hr2.up hb3
        go_wp2_with fail
        (go_at_call 14; refine (HT3.out _ (by (repeat (first | (with_reducible assumption) | (with_reducible exact Below.refl _ _) | (with_reducible refine below_drewN' ?_ _) | (with_reducible refine Below.drew ?_) | ((with_reducible refine Below.alloc ?_ ?_ _); rotate_left; focus (first | (simp; done) | (simp; omega) | omega)) | ((with_reducible refine Below.setCell ?_ ?_ _); rotate_left; focus (first | (simp; done) | (simp; omega) | omega)))))).mono ?_; rintro e4 w4 ⟨X4, d4, rfl, hr4, hb4⟩; have hB4 : Below w.heap.size w w4 := (below_then (by first | (go_grown; done) | (repeat (first | (with_reducible assumption) | (with_reducible exact Below.refl _ _) | (with_reducible refine below_drewN' ?_ _) | (with_reducible refine Below.drew ?_) | ((with_reducible refine Below.alloc ?_ ?_ _); rotate_left; focus (first | (simp; done) | (simp; omega) | omega)) | ((with_reducible refine Below.setCell ?_ ?_ _); rotate_left; focus (first | (simp; done) | (simp; omega) | omega))))) (by first | omega | (simp; done) | (simp; omega)) hb4); have hz4a : w.heap.size < w4.heap.size := (by have := hb4.size; first | omega | (simp at this; omega)))
        have hT4 := blk_below hT3 hb4 hz3a
        have HR2 := Lib.hid (hr2.up hb4)
        have HR3 := Lib.hid (hr3.up hb4)
        have HR4 := Lib.hid hr4
        clear hT1 hT2 hT3 hr2 hr3 hr4
        go_wp2_with fail
        go_at_call 12
        refine (S1.out _ _ _ _ _ _ _ HR2.out HR3.out HR4.out).mono ?_
        rintro e5 w5 ⟨rfl, hb5⟩
        have hB5 : Below w.heap.size w w5 := below_then hB4 hB4.size hb5
        have hz5a : w.heap.size < w5.heap.size := by have := hb5.size; omega
        have hT5 := blk_below hT4 hb5 hz4a
        clear hT4 HR2 HR3 HR4
        go_wp2_with fail
        (go_at_call 14; refine (HT1.out _ (by (repeat (first | (with_reducible assumption) | (with_reducible exact Below.refl _ _) | (with_reducible refine below_drewN' ?_ _) | (with_reducible refine Below.drew ?_) | ((with_reducible refine Below.alloc ?_ ?_ _); rotate_left; focus (first | (simp; done) | (simp; omega) | omega)) | ((with_reducible refine Below.setCell ?_ ?_ _); rotate_left; focus (first | (simp; done) | (simp; omega) | omega)))))).mono ?_; rintro e6 w6 ⟨X6, d6, rfl, hr6, hb6⟩; have hB6 : Below w.heap.size w w6 := (below_then (by first | (go_grown; done) | (repeat (first | (with_reducible assumption) | (with_reducible exact Below.refl _ _) | (with_reducible refine below_drewN' ?_ _) | (with_reducible refine Below.drew ?_) | ((with_reducible refine Below.alloc ?_ ?_ _); rotate_left; focus (first | (simp; done) | (simp; omega) | omega)) | ((with_reducible refine Below.setCell ?_ ?_ _); rotate_left; focus (first | (simp; done) | (simp; omega) | omega))))) (by first | omega | (simp; done) | (simp; omega)) hb6); have hz6a : w.heap.size < w6.heap.size := (by have := hb6.size; first | omega | (simp at this; omega)))
        have hT6 := blk_below hT5 hb6 hz5a
        go_wp2_with fail
        (go_at_call 14; refine (HT2.out _ (by (repeat (first | (with_reducible assumption) | (with_reducible exact Below.refl _ _) | (with_reducible refine below_drewN' ?_ _) | (with_reducible refine Below.drew ?_) | ((with_reducible refine Below.alloc ?_ ?_ _); rotate_left; focus (first | (simp; done) | (simp; omega) | omega)) | ((with_reducible refine Below.setCell ?_ ?_ _); rotate_left; focus (first | (simp; done) | (simp; omega) | omega)))))).mono ?_; rintro e7 w7 ⟨X7, d7, rfl, hr7, hb7⟩; have hB7 : Below w.heap.size w w7 := (below_then (by first | (go_grown; done) | (repeat (first | (with_reducible assumption) | (with_reducible exact Below.refl _ _) | (with_reducible refine below_drewN' ?_ _) | (with_reducible refine Below.drew ?_) | ((with_reducible refine Below.alloc ?_ ?_ _); rotate_left; focus (first | (simp; done) | (simp; omega) | omega)) | ((with_reducible refine Below.setCell ?_ ?_ _); rotate_left; focus (first | (simp; done) | (simp; omega) | omega))))) (by first | omega | (simp; done) | (simp; omega)) hb7); have hz7a : w.heap.size < w7.heap.size := (by have := hb7.size; first | omega | (simp at this; omega)))
        have hT7 := blk_below hT6 hb7 hz6a
        have hr6 := hr6.up hb7
        go_wp2_with fail
        (go_at_call 14; refine (HT3.out _ (by (repeat (first | (with_reducible assumption) | (with_reducible exact Below.refl _ _) | (with_reducible refine below_drewN' ?_ _) | (with_reducible refine Below.drew ?_) | ((with_reducible refine Below.alloc ?_ ?_ _); rotate_left; focus (first | (simp; done) | (simp; omega) | omega)) | ((with_reducible refine Below.setCell ?_ ?_ _); rotate_left; focus (first | (simp; done) | (simp; omega) | omega)))))).mono ?_; rintro e8 w8 ⟨X8, d8, rfl, hr8, hb8⟩; have hB8 : Below w.heap.size w w8 := (below_then (by first | (go_grown; done) | (repeat (first | (with_reducible assumption) | (with_reducible exact Below.refl _ _) | (with_reducible refine below_drewN' ?_ _) | (with_reducible refine Below.drew ?_) | ((with_reducible refine Below.alloc ?_ ?_ _); rotate_left; focus (first | (simp; done) | (simp; omega) | omega)) | ((with_reducible refine Below.setCell ?_ ?_ _); rotate_left; focus (first | (simp; done) | (simp; omega) | omega))))) (by first | omega | (simp; done) | (simp; omega)) hb8); have hz8a : w.heap.size < w8.heap.size := (by have := hb8.size; first | omega | (simp at this; omega)))
        have hT8 := blk_below hT7 hb8 hz7a
        have hr6 := hr6.up hb8
        have hr7 := hr7.up hb8
        obtain ⟨p0, p1, p2, p3, p4, -⟩ := blk5 hT8
        clear hT5 hT6 hT7 hT8
        go_wp2_with fail
        (go_at_call 13; with_reducible refine (HTC.out _).mono ?_; rintro e9 w9 ⟨rfl, hb9⟩; obtain ⟨hc9, hf9⟩ := bcell hb9; have hB9 : Below w.heap.size w w9 := (below_then (by first | (go_grown; done) | (repeat (first | (with_reducible assumption) | (with_reducible exact Below.refl _ _) | (with_reducible refine below_drewN' ?_ _) | (with_reducible refine Below.drew ?_) | ((with_reducible refine Below.alloc ?_ ?_ _); rotate_left; focus (first | (simp; done) | (simp; omega) | omega)) | ((with_reducible refine Below.setCell ?_ ?_ _); rotate_left; focus (first | (simp; done) | (simp; omega) | omega))))) (by first | omega | (simp; done) | (simp; omega)) hb9); have hz9a : w.heap.size < w9.heap.size := (by have := hb9.size; first | omega | (simp at this; omega)))
        have HR6 := Lib.hid (hr6.up hb9)
        have HR7 := Lib.hid (hr7.up hb9)
        have HR8 := Lib.hid (hr8.up hb9)
        clear hc9 hf9 hr6 hr7 hr8 p0 p1 p2 p3 p4
        go_wp2_with fail
        go_at_call 15
        refine (S2.out _ _ _ _ _ _ _ HR6.out HR7.out HR8.out).mono ?_
        rintro e10 w10 ⟨rfl, hb10⟩
        have hB10 : Below w.heap.size w w10 := below_then hB9 hB9.size hb10
        have hz10a : w.heap.size < w10.heap.size := by have := hb10.size; omega
        have HQ6 := Lib.hid (HR6.out.up hb10)
        have HQ7 := Lib.hid (HR7.out.up hb10)
        have HQ8 := Lib.hid (HR8.out.up hb10)
        clear HR6 HR7 HR8
        go_wp2_with fail
        (go_at_call 14; refine (HT1.out _ (by (repeat (first | (with_reducible assumption) | (with_reducible exact Below.refl _ _) | (with_reducible refine below_drewN' ?_ _) | (with_reducible refine Below.drew ?_) | ((with_reducible refine Below.alloc ?_ ?_ _); rotate_left; focus (first | (simp; done) | (simp; omega) | omega)) | ((with_reducible refine Below.setCell ?_ ?_ _); rotate_left; focus (first | (simp; done) | (simp; omega) | omega)))))).mono ?_; rintro e11 w11 ⟨X11, d11, rfl, hr11, hb11⟩; have hB11 : Below w.heap.size w w11 := (below_then (by first | (go_grown; done) | (repeat (first | (with_reducible assumption) | (with_reducible exact Below.refl _ _) | (with_reducible refine below_drewN' ?_ _) | (with_reducible refine Below.drew ?_) | ((with_reducible refine Below.alloc ?_ ?_ _); rotate_left; focus (first | (simp; done) | (simp; omega) | omega)) | ((with_reducible refine Below.setCell ?_ ?_ _); rotate_left; focus (first | (simp; done) | (simp; omega) | omega))))) (by first | omega | (simp; done) | (simp; omega)) hb11); have hz11a : w.heap.size < w11.heap.size := (by have := hb11.size; first | omega | (simp at this; omega)))
        have HY := Lib.hid (eqInt64S_any X6 X11 n1 n1 d6 d11 xs xs w11 w11.heap.size w11.heap.size (HQ6.out.up hb11) hr11 (by omega) (by omega))
        rw [HE1.out] at HY
        have HQ7 := Lib.hid (HQ7.out.up hb11)
        have HQ8 := Lib.hid (HQ8.out.up hb11)
        clear hr11
        go_wp2_with fail
        go_at_call 16
        refine HY.out.mono ?_
        rintro e12 w12 ⟨rfl, m12, rfl⟩
        go_wp2_with fail
        (go_at_call 14; refine (HT2.out _ (by (repeat (first | (with_reducible assumption) | (with_reducible exact Below.refl _ _) | (with_reducible refine below_drewN' ?_ _) | (with_reducible refine Below.drew ?_) | ((with_reducible refine Below.alloc ?_ ?_ _); rotate_left; focus (first | (simp; done) | (simp; omega) | omega)) | ((with_reducible refine Below.setCell ?_ ?_ _); rotate_left; focus (first | (simp; done) | (simp; omega) | omega)))))).mono ?_; rintro e13 w13 ⟨X13, d13, rfl, hr13, hb13⟩; have hB13 : Below w.heap.size w w13 := (below_then (by first | (go_grown; done) | (repeat (first | (with_reducible assumption) | (with_reducible exact Below.refl _ _) | (with_reducible refine below_drewN' ?_ _) | (with_reducible refine Below.drew ?_) | ((with_reducible refine Below.alloc ?_ ?_ _); rotate_left; focus (first | (simp; done) | (simp; omega) | omega)) | ((with_reducible refine Below.setCell ?_ ?_ _); rotate_left; focus (first | (simp; done) | (simp; omega) | omega))))) (by first | omega | (simp; done) | (simp; omega)) hb13); have hz13a : w.heap.size < w13.heap.size := (by have := hb13.size; first | omega | (simp at this; omega)))
        have HY := Lib.hid (eqInt64S_any X7 X13 n2 n2 d7 d13 ys ys w13 w13.heap.size w13.heap.size ((RI.drewN HQ7.out m12).up hb13) hr13 (by omega) (by omega))
        rw [HE2.out] at HY
        have HQ8 := Lib.hid ((RI.drewN HQ8.out m12).up hb13)
        clear hr13
        go_wp2_with fail
        go_at_call 16
        refine HY.out.mono ?_
        rintro e14 w14 ⟨rfl, m14, rfl⟩
        go_wp2_with fail
        (go_at_call 14; refine (HT3.out _ (by (repeat (first | (with_reducible assumption) | (with_reducible exact Below.refl _ _) | (with_reducible refine below_drewN' ?_ _) | (with_reducible refine Below.drew ?_) | ((with_reducible refine Below.alloc ?_ ?_ _); rotate_left; focus (first | (simp; done) | (simp; omega) | omega)) | ((with_reducible refine Below.setCell ?_ ?_ _); rotate_left; focus (first | (simp; done) | (simp; omega) | omega)))))).mono ?_; rintro e15 w15 ⟨X15, d15, rfl, hr15, hb15⟩; have hB15 : Below w.heap.size w w15 := (below_then (by first | (go_grown; done) | (repeat (first | (with_reducible assumption) | (with_reducible exact Below.refl _ _) | (with_reducible refine below_drewN' ?_ _) | (with_reducible refine Below.drew ?_) | ((with_reducible refine Below.alloc ?_ ?_ _); rotate_left; focus (first | (simp; done) | (simp; omega) | omega)) | ((with_reducible refine Below.setCell ?_ ?_ _); rotate_left; focus (first | (simp; done) | (simp; omega) | omega))))) (by first | omega | (simp; done) | (simp; omega)) hb15); have hz15a : w.heap.size < w15.heap.size := (by have := hb15.size; first | omega | (simp at this; omega)))
        have HY := Lib.hid (eqInt64S_any X8 X15 n3 n3 d8 d15 er er w15 w15.heap.size w15.heap.size ((RI.drewN HQ8.out m14).up hb15) hr15 (by omega) (by omega))
        rw [HE3.out] at HY
        clear hr15
        go_wp2_with fail
        go_at_call 16
        refine HY.out.mono ?_
        rintro e16 w16 ⟨rfl, m16, rfl⟩
        go_wp2_with fail
        go_ret
        exact ⟨rfl, by (repeat (first | (with_reducible assumption) | (with_reducible exact Below.refl _ _) | (with_reducible refine below_drewN' ?_ _) | (with_reducible refine Below.drew ?_) | ((with_reducible refine Below.alloc ?_ ?_ _); rotate_left; focus (first | (simp; done) | (simp; omega) | omega)) | ((with_reducible refine Below.setCell ?_ ?_ _); rotate_left; focus (first | (simp; done) | (simp; omega) | omega))))⟩
      · go_enter Try.func5, Try.ntmps5
        go_wp2_with fail
        go_ret
        exact ⟨rfl, by (repeat (first | (with_reducible assumption) | (with_reducible exact Below.refl _ _) | (with_reducible refine below_drewN' ?_ _) | (with_reducible refine Below.drew ?_) | ((with_reducible refine Below.alloc ?_ ?_ _); rotate_left; focus (first | (simp; done) | (simp; omega) | omega)) | ((with_reducible refine Below.setCell ?_ ?_ _); rotate_left; focus (first | (simp; done) | (simp; omega) | omega))))⟩
    · go_enter Try.func5, Try.ntmps5
      go_wp2_with fail
      go_ret
      exact ⟨rfl, by (repeat (first | (with_reducible assumption) | (with_reducible exact Below.refl _ _) | (with_reducible refine below_drewN' ?_ _) | (with_reducible refine Below.drew ?_) | ((with_reducible refine Below.alloc ?_ ?_ _); rotate_left; focus (first | (simp; done) | (simp; omega) | omega)) | ((with_reducible refine Below.setCell ?_ ?_ _); rotate_left; focus (first | (simp; done) | (simp; omega) | omega))))⟩
  · go_enter Try.func5, Try.ntmps5
    go_wp2_with fail
    go_ret
    exact ⟨rfl, by (repeat (first | (with_reducible assumption) | (with_reducible exact Below.refl _ _) | (with_reducible refine below_drewN' ?_ _) | (with_reducible refine Below.drew ?_) | ((with_reducible refine Below.alloc ?_ ?_ _); rotate_left; focus (first | (simp; done) | (simp; omega) | omega)) | ((with_reducible refine Below.setCell ?_ ?_ _); rotate_left; focus (first | (simp; done) | (simp; omega) | omega))))⟩
set_option maxRecDepth 100000 in
theorem lifted_FnExactDamageOf (os : Os) (started : os.Started) (H : Type) (enc : TypeId × Value → H) :
    ReturnsInHanded {} Try.checked os 5 .any (Rows.fnExactDamageOfSpec.pre6 enc Try.prog Try.f5 Rows.fnExactDamageOfRow.domain false) (Rows.fnExactDamageOfSpec.post enc Try.prog Try.f5 false true false false) := by
  refine law_lifted (C := Try.checked) (tb := 4) own started (by kernel_rfl) Try.func5
    (ChangeSpec.witness6 (enc := enc) (C := Try.checked) false ⟨#[], #[.agg #[.int .i64 0, .int .i64 0, .int .i64 0, .int .i64 0, .int .i64 0], .slice none 0 0, .slice none 0 0, .slice none 0 0], []⟩ 8 (by kernel_rfl) (by kernel_rfl) (by kernel_rfl) (by kernel_rfl))
    laidOut (by kernel_rfl) rfl rfl Try.underlying4 ?_ ?_
  · intro ds hd
    match ds, hd with
    | [e0, e1, e2, e3], _ => rfl
  · intro W base args ds p hval hA hlt hsz
    have hval1 : ∀ (j : Nat) t v, Try.f5.params[j]? = some t → args[j]? = some v → Value.okWide Try.prog W .any base t v := hval
    have hA1 : DataW.TrodAll enc Try.prog W 0 (fun _ => true) true Try.f5.params.toList args.toList ds p := hA
    have hsz1 : (DataW.weightsEach Try.prog Try.f5.params.toList ds).all (· ≤ reachBytes) = true := hsz
    rw [Try.params5] at hval1 hA1 hsz1
    clear hval hA hsz
    obtain ⟨v0, v1, v2, v3, d0, d1, d2, d3, p0, p1, p2, p3, rfl, rfl, rfl, h0, h1, h2, h3⟩ := trodAll_four hA1
    obtain ⟨xs, hl, rfl, _⟩ := ok_agg_ints (n := 5) (e := 2) Try.underlying33 (by kernel_rfl) (by kernel_rfl) Try.underlying2 (hval1 0 33 v0 rfl rfl)
    obtain ⟨A1, n1, c1, x1, rfl, hr1, hm1, _⟩ := arg_ints Try.underlying34 Try.underlying2 (by kernel_rfl) (hval1 1 34 v1 rfl rfl) h1 (fun x hx => hlt x (by simp [hx]))
    obtain ⟨A2, n2, c2, x2, rfl, hr2, hm2, _⟩ := arg_ints Try.underlying34 Try.underlying2 (by kernel_rfl) (hval1 2 34 v2 rfl rfl) h2 (fun x hx => hlt x (by simp [hx]))
    obtain ⟨A3, n3, c3, x3, rfl, hr3, hm3, _⟩ := arg_ints Try.underlying34 Try.underlying2 (by kernel_rfl) (hval1 3 34 v3 rfl rfl) h3 (fun x hx => hlt x (by simp [hx]))
    match xs, hl with
    | [p, k, g, len, chk], _ => exact lawDamageOf p k g len chk n1 c1 n2 c2 n3 c3 A1 A2 A3 x1 x2 x3 W hr1 hr2 hr3 hm1 hm2 hm3
theorem holds_FnExactDamageOf : Rows.FnExactDamageOfSaid :=
  OpenClaim.holds_of_wide 5 Try.f5 rfl rfl rfl rfl rfl rfl rfl ⟨rfl, rfl, rfl, rfl, rfl⟩ rfl rfl rfl rfl rfl (by kernel_rfl) Try.func5 (by kernel_rfl)
    (of_decide_eq_true (by kernel_rfl)) (by unfold Func.isWrapper; first | (rw [if_pos (by decide +kernel)]; kernel_rfl) | (rw [if_neg (by decide +kernel)]; exact ⟨rfl, rfl⟩))
    (fun os started H enc _ => lifted_FnExactDamageOf os started H enc)

end Go.Proofs.Ytffcjmnldmjocaa
