/-
  Contracts of chapter 16: ApplyMask, the program and the reference.
-/
import Derived.Test.YteghpageamehkaaC16M
namespace Go.Proofs.Yteghpageamehkaa
set_option linter.unusedSimpArgs false
open Go.RowKit

def amC (r c : Int) (xs : List Int) (v : Int) : Int := bif sqB r c xs then (bif inR v 0 7 then 0 else 2) else 1
def amN (r c : Int) (xs : List Int) (v : Int) : Int := bif sqB r c xs then (bif inR v 0 7 then r else 0) else 0
def amL (r c : Int) (xs : List Int) (v : Int) : List Int := bif sqB r c xs then (bif inR v 0 7 then mskL r.toNat v.toNat (dataL r.toNat) xs (dataL r.toNat).length else []) else []
theorem amL_le (r c : Int) (xs : List Int) (v : Int) : (amL r c xs v).length ≤ 1681 := by
  unfold amL
  cases hs : sqB r c xs
  · simp
  · obtain ⟨N, rfl, rfl, hN, hl, _⟩ := sqB_true hs
    have hNN : N * N ≤ 1681 := Nat.mul_le_mul hN.2.1 hN.2.1
    cases inR v 0 7
    · simp
    · simp only [cond_true]
      rw [mskL_len, hl]; exact hNN
set_option maxHeartbeats 4000000 in
theorem ApplyMask_any (r c : Int) (A : Option Addr) (n cp : Nat) (xs : List Int) (v : Int) (w : World) (B : Nat) (hr : RI w B A n xs) (hB : B ≤ w.heap.size) (hn : n ≤ 1000000000000000) :
    Calls Try.prog 38 #[.agg #[.int .i64 r, .int .i64 c, .slice A n cp], .int .i64 v] w fun e w' =>
      ∃ u, e = .returned (.tuple #[.agg #[.int .i64 (amN r c xs v), .int .i64 (amN r c xs v), u], .int .i64 (amC r c xs v)]) ∧ Own w' w.heap.size u (amL r c xs v) ∧ Below w.heap.size w w' := by
  have HR := Lib.hid (hr.more hB)
  have HX0 := Lib.hid (show ((w.alloc (.cells #[.int .i64 r, .int .i64 c, .slice A n cp] 37)).alloc (.cells #[.int .i64 0, .int .i64 0, .slice none 0 0] 37)).heap[w.heap.size]? = some (.cells #[.int .i64 r, .int .i64 c, .slice A n cp] 37 (0, 0)) by (repeat (first | (with_reducible exact heap_alloc_new _ _) | (rw [heap_drew1]) | (rw [heap_drewN1]) | (rw [Below.heap_setCell _ _ _ _ (by first | omega | (simp; done) | (simp; omega))]) | (rw [Below.heap_alloc _ _ _ (by first | omega | (simp; done) | (simp; omega))]) | (exact heap_alloc_at (by first | omega | (simp; done) | (simp; omega))))))
  have HZ0 := Lib.hid (show ((w.alloc (.cells #[.int .i64 r, .int .i64 c, .slice A n cp] 37)).alloc (.cells #[.int .i64 0, .int .i64 0, .slice none 0 0] 37)).heap[w.heap.size + 1]? = some (.cells #[.int .i64 0, .int .i64 0, .slice none 0 0] 37 (0, 0)) by (repeat (first | (with_reducible exact heap_alloc_new _ _) | (rw [heap_drew1]) | (rw [heap_drewN1]) | (rw [Below.heap_setCell _ _ _ _ (by first | omega | (simp; done) | (simp; omega))]) | (rw [Below.heap_alloc _ _ _ (by first | omega | (simp; done) | (simp; omega))]) | (exact heap_alloc_at (by first | omega | (simp; done) | (simp; omega))))))
  have HC := Lib.hid (isMatrix_any r c A n cp xs ((w.alloc (.cells #[.int .i64 r, .int .i64 c, .slice A n cp] 37)).alloc (.cells #[.int .i64 0, .int .i64 0, .slice none 0 0] 37)) w.heap.size ((HR.out.alloc (Nat.le_refl _) _).alloc (by simp) _) (by simp; omega) hn)
  have hlen := hr.len
  clear hr
  unfold amC amN amL
  cases hs : sqB r c xs
  · rw [hs] at HC
    go_enter Try.func38, Try.ntmps38
    go_wp2_with fail
    (go_at_call 72; go_call (HC.out) as e1 w1 ⟨rfl, hb1⟩; obtain ⟨hc1, hf1⟩ := bcell hb1; have hB1 : Below w.heap.size w w1 := (below_then (by first | (go_grown; done) | (repeat (first | (with_reducible assumption) | (with_reducible exact Below.refl _ _) | (with_reducible refine below_drewN' ?_ _) | (with_reducible refine Below.drew ?_) | ((with_reducible refine Below.alloc ?_ ?_ _); rotate_left; focus (first | (simp; done) | (simp; omega) | omega)) | ((with_reducible refine Below.setCell ?_ ?_ _); rotate_left; focus (first | (simp; done) | (simp; omega) | omega))))) (by first | omega | (simp; done) | (simp; omega)) hb1); have hz1a : w.heap.size < w1.heap.size := (by have := hb1.size; first | omega | (simp at this; omega)); have hz1b : w.heap.size + 1 < w1.heap.size := (by have := hb1.size; first | omega | (simp at this; omega)))
    have HZ1 := Lib.hid (blk_below HZ0.out hb1 (by simp))
    obtain ⟨z0, z1, z2, zf⟩ := blk3 HZ1.out
    obtain ⟨s0, s1, s2⟩ := res3 HZ1.out (.int .i64 0) (.int .i64 0) (.slice none 0 0)
    clear hc1 hf1
    go_wp2_with fail
    (try simp only [Exit.inBlock, Exit.then]); refine bodyPost_ret (by simp [results, Try.results38, go_sem, s0, s1, s2]; try rfl) rfl ?_
    exact ⟨_, rfl, by simpa using Own.nil, ((hB1.setCell (Nat.le_succ _) _).setCell (Nat.le_succ _) _).setCell (Nat.le_succ _) _⟩
  rw [hs] at HC
  cases hv : inR v 0 7
  · go_enter Try.func38, Try.ntmps38
    go_wp2_with fail
    (go_at_call 72; go_call (HC.out) as e1 w1 ⟨rfl, hb1⟩; obtain ⟨hc1, hf1⟩ := bcell hb1; have hB1 : Below w.heap.size w w1 := (below_then (by first | (go_grown; done) | (repeat (first | (with_reducible assumption) | (with_reducible exact Below.refl _ _) | (with_reducible refine below_drewN' ?_ _) | (with_reducible refine Below.drew ?_) | ((with_reducible refine Below.alloc ?_ ?_ _); rotate_left; focus (first | (simp; done) | (simp; omega) | omega)) | ((with_reducible refine Below.setCell ?_ ?_ _); rotate_left; focus (first | (simp; done) | (simp; omega) | omega))))) (by first | omega | (simp; done) | (simp; omega)) hb1); have hz1a : w.heap.size < w1.heap.size := (by have := hb1.size; first | omega | (simp at this; omega)); have hz1b : w.heap.size + 1 < w1.heap.size := (by have := hb1.size; first | omega | (simp at this; omega)))
    have HZ1 := Lib.hid (blk_below HZ0.out hb1 (by simp))
    obtain ⟨z0, z1, z2, zf⟩ := blk3 HZ1.out
    obtain ⟨s0, s1, s2⟩ := res3 HZ1.out (.int .i64 0) (.int .i64 0) (.slice none 0 0)
    clear hc1 hf1
    go_wp2_with (go_at_call 53; refine (inRange_any _ _ _ _).mono ?_; rintro e w' ⟨rfl, rfl⟩)
    (try simp only [Exit.inBlock, Exit.then]); refine bodyPost_ret (by simp [results, Try.results38, go_sem, s0, s1, s2]; try rfl) rfl ?_
    exact ⟨_, rfl, by simpa using Own.nil, ((hB1.setCell (Nat.le_succ _) _).setCell (Nat.le_succ _) _).setCell (Nat.le_succ _) _⟩
  · obtain ⟨N, rfl, rfl, hN, hl, hal⟩ := sqB_true hs
    have hvr := inR_true hv
    obtain ⟨V, rfl⟩ := Int.eq_ofNat_of_zero_le hvr.1
    have hN0 : 0 < N * N := Nat.mul_pos (by omega) (by omega)
    have hNN : N * N ≤ 1681 := Nat.mul_le_mul hN.2.1 hN.2.1
    have hnN : n = N * N := by omega
    subst hnN
    obtain ⟨b, o, rfl, -, -⟩ := HR.out.cells hN0
    have hPF := fun (b o c : Nat) (w : World) (B : Nat) (hr : RI w B (some ⟨b, o, none⟩) (N * N) xs) (hB : B ≤ w.heap.size) => masked_any N V b o c xs w B hN (by omega) hr hB hl hal
    simp only [cond_true, Int.toNat_natCast]
    have hpl : (mskL N V (dataL N) xs (dataL N).length).length = N * N := by rw [mskL_len, hl]
    generalize mskL N V (dataL N) xs (dataL N).length = PL at hPF hpl ⊢
    have HPF := Lib.hid hPF
    have HPL := Lib.hid hpl
    clear hPF hl hlen hpl hal
    go_enter Try.func38, Try.ntmps38
    go_wp2_with fail
    (go_at_call 72; go_call (HC.out) as e1 w1 ⟨rfl, hb1⟩; obtain ⟨hc1, hf1⟩ := bcell hb1; have hB1 : Below w.heap.size w w1 := (below_then (by first | (go_grown; done) | (repeat (first | (with_reducible assumption) | (with_reducible exact Below.refl _ _) | (with_reducible refine below_drewN' ?_ _) | (with_reducible refine Below.drew ?_) | ((with_reducible refine Below.alloc ?_ ?_ _); rotate_left; focus (first | (simp; done) | (simp; omega) | omega)) | ((with_reducible refine Below.setCell ?_ ?_ _); rotate_left; focus (first | (simp; done) | (simp; omega) | omega))))) (by first | omega | (simp; done) | (simp; omega)) hb1); have hz1a : w.heap.size < w1.heap.size := (by have := hb1.size; first | omega | (simp at this; omega)); have hz1b : w.heap.size + 1 < w1.heap.size := (by have := hb1.size; first | omega | (simp at this; omega)))
    have HX1 := Lib.hid (blk_below HX0.out hb1 (by simp; omega))
    have HZ1 := Lib.hid (blk_below HZ0.out hb1 (by simp))
    have HR1 := Lib.hid (((HR.out.alloc (Nat.le_refl _) (.cells #[.int .i64 (N : Int), .int .i64 (N : Int), .slice (some ⟨b, o, none⟩) (N * N) cp] 37)).alloc (by simp) (.cells #[.int .i64 0, .int .i64 0, .slice none 0 0] 37)).below (hb1.mono (by simp; omega)))
    clear hc1 hf1
    obtain ⟨y0, y1, y2, -⟩ := blk3 HX1.out
    go_wp2_with first | (go_at_call 53; refine (inRange_any _ _ _ _).mono ?_; rintro e w' ⟨rfl, rfl⟩)
    (go_at_call 76; go_call (HPF.out b o cp _ w.heap.size HR1.out (by omega)) as e2 w2 ⟨v2, rfl, ho2, hb2⟩; obtain ⟨hc2, hf2⟩ := bcell hb2; have hB2 : Below w.heap.size w w2 := (below_then (by first | (go_grown; done) | (repeat (first | (with_reducible assumption) | (with_reducible exact Below.refl _ _) | (with_reducible refine below_drewN' ?_ _) | (with_reducible refine Below.drew ?_) | ((with_reducible refine Below.alloc ?_ ?_ _); rotate_left; focus (first | (simp; done) | (simp; omega) | omega)) | ((with_reducible refine Below.setCell ?_ ?_ _); rotate_left; focus (first | (simp; done) | (simp; omega) | omega))))) (by first | omega | (simp; done) | (simp; omega)) hb2); have hz2a : w.heap.size < w2.heap.size := (by have := hb2.size; first | omega | (simp at this; omega)); have hz2b : w.heap.size + 1 < w2.heap.size := (by have := hb2.size; first | omega | (simp at this; omega)))
    have hs2 := hb2.size
    obtain ⟨A2, c2, rfl, -⟩ := ho2.shape
    rw [HPL.out] at ho2 ⊢
    have HO2 := Lib.hid ho2
    have HZ2 := Lib.hid (blk_below HZ1.out hb2 (by omega))
    clear hc2 hf2 ho2 y0 y1 y2
    obtain ⟨z0, z1, z2, zf⟩ := blk3 HZ2.out
    obtain ⟨s0, s1, s2⟩ := res3 HZ2.out (.int .i64 (N : Int)) (.int .i64 (N : Int)) (.slice A2 (N * N) c2)
    go_wp2_with fail
    (try simp only [Exit.inBlock, Exit.then]); refine bodyPost_ret (by simp [results, Try.results38, go_sem, s0, s1, s2]; try rfl) rfl ?_
    exact ⟨_, rfl, ((((HO2.out.setLt (p := ⟨w.heap.size + 1, 0, none⟩) hz1b _).setLt (p := ⟨w.heap.size + 1, 1, none⟩) hz1b _).setLt (p := ⟨w.heap.size + 1, 2, none⟩) hz1b _)).more (by omega),
      ((hB2.setCell (Nat.le_succ _) _).setCell (Nat.le_succ _) _).setCell (Nat.le_succ _) _⟩
theorem l16Mask_any (v : Int) (w : World) : Calls Try.prog 74 #[.int .i64 v] w fun e w' => e = .returned (.bool (inR v 0 7)) ∧ w = w' := by
  go_enter Try.func74, Try.ntmps74
  go_wp2_with (go_at_call 57; refine (l01In_any _ _ _ _).mono ?_; rintro e w' ⟨rfl, rfl⟩)
  go_ret
  exact ⟨rfl, rfl⟩
set_option maxHeartbeats 4000000 in
theorem sApplyMask_any (r c : Int) (A : Option Addr) (n cp : Nat) (xs : List Int) (v : Int) (w : World) (B : Nat) (hr : RI w B A n xs) (hB : B ≤ w.heap.size) (hn : n ≤ 1000000000000000) :
    Calls Try.prog 37 #[.agg #[.int .i64 r, .int .i64 c, .slice A n cp], .int .i64 v] w fun e w' =>
      ∃ u, e = .returned (.tuple #[.agg #[.int .i64 (amN r c xs v), .int .i64 (amN r c xs v), u], .int .i64 (amC r c xs v)]) ∧ Own w' w.heap.size u (amL r c xs v) ∧ Below w.heap.size w w' := by
  have HR := Lib.hid (hr.more hB)
  have HX0 := Lib.hid (show ((w.alloc (.cells #[.int .i64 r, .int .i64 c, .slice A n cp] 37)).alloc (.cells #[.int .i64 0, .int .i64 0, .slice none 0 0] 37)).heap[w.heap.size]? = some (.cells #[.int .i64 r, .int .i64 c, .slice A n cp] 37 (0, 0)) by (repeat (first | (with_reducible exact heap_alloc_new _ _) | (rw [heap_drew1]) | (rw [heap_drewN1]) | (rw [Below.heap_setCell _ _ _ _ (by first | omega | (simp; done) | (simp; omega))]) | (rw [Below.heap_alloc _ _ _ (by first | omega | (simp; done) | (simp; omega))]) | (exact heap_alloc_at (by first | omega | (simp; done) | (simp; omega))))))
  have HZ0 := Lib.hid (show ((w.alloc (.cells #[.int .i64 r, .int .i64 c, .slice A n cp] 37)).alloc (.cells #[.int .i64 0, .int .i64 0, .slice none 0 0] 37)).heap[w.heap.size + 1]? = some (.cells #[.int .i64 0, .int .i64 0, .slice none 0 0] 37 (0, 0)) by (repeat (first | (with_reducible exact heap_alloc_new _ _) | (rw [heap_drew1]) | (rw [heap_drewN1]) | (rw [Below.heap_setCell _ _ _ _ (by first | omega | (simp; done) | (simp; omega))]) | (rw [Below.heap_alloc _ _ _ (by first | omega | (simp; done) | (simp; omega))]) | (exact heap_alloc_at (by first | omega | (simp; done) | (simp; omega))))))
  have HC := Lib.hid (l14Square_any r c A n cp xs ((w.alloc (.cells #[.int .i64 r, .int .i64 c, .slice A n cp] 37)).alloc (.cells #[.int .i64 0, .int .i64 0, .slice none 0 0] 37)) w.heap.size ((HR.out.alloc (Nat.le_refl _) _).alloc (by simp) _) (by simp; omega) hn)
  have hlen := hr.len
  clear hr
  unfold amC amN amL
  cases hs : sqB r c xs
  · rw [hs] at HC
    go_enter Try.func37, Try.ntmps37
    go_wp2_with fail
    (go_at_call 70; go_call (HC.out) as e1 w1 ⟨rfl, hb1⟩; obtain ⟨hc1, hf1⟩ := bcell hb1; have hB1 : Below w.heap.size w w1 := (below_then (by first | (go_grown; done) | (repeat (first | (with_reducible assumption) | (with_reducible exact Below.refl _ _) | (with_reducible refine below_drewN' ?_ _) | (with_reducible refine Below.drew ?_) | ((with_reducible refine Below.alloc ?_ ?_ _); rotate_left; focus (first | (simp; done) | (simp; omega) | omega)) | ((with_reducible refine Below.setCell ?_ ?_ _); rotate_left; focus (first | (simp; done) | (simp; omega) | omega))))) (by first | omega | (simp; done) | (simp; omega)) hb1); have hz1a : w.heap.size < w1.heap.size := (by have := hb1.size; first | omega | (simp at this; omega)); have hz1b : w.heap.size + 1 < w1.heap.size := (by have := hb1.size; first | omega | (simp at this; omega)))
    have HZ1 := Lib.hid (blk_below HZ0.out hb1 (by simp))
    obtain ⟨z0, z1, z2, zf⟩ := blk3 HZ1.out
    obtain ⟨s0, s1, s2⟩ := res3 HZ1.out (.int .i64 0) (.int .i64 0) (.slice none 0 0)
    clear hc1 hf1
    go_wp2_with fail
    (try simp only [Exit.inBlock, Exit.then]); refine bodyPost_ret (by simp [results, Try.results37, go_sem, s0, s1, s2]; try rfl) rfl ?_
    exact ⟨_, rfl, by simpa using Own.nil, ((hB1.setCell (Nat.le_succ _) _).setCell (Nat.le_succ _) _).setCell (Nat.le_succ _) _⟩
  rw [hs] at HC
  cases hv : inR v 0 7
  · go_enter Try.func37, Try.ntmps37
    go_wp2_with fail
    (go_at_call 70; go_call (HC.out) as e1 w1 ⟨rfl, hb1⟩; obtain ⟨hc1, hf1⟩ := bcell hb1; have hB1 : Below w.heap.size w w1 := (below_then (by first | (go_grown; done) | (repeat (first | (with_reducible assumption) | (with_reducible exact Below.refl _ _) | (with_reducible refine below_drewN' ?_ _) | (with_reducible refine Below.drew ?_) | ((with_reducible refine Below.alloc ?_ ?_ _); rotate_left; focus (first | (simp; done) | (simp; omega) | omega)) | ((with_reducible refine Below.setCell ?_ ?_ _); rotate_left; focus (first | (simp; done) | (simp; omega) | omega))))) (by first | omega | (simp; done) | (simp; omega)) hb1); have hz1a : w.heap.size < w1.heap.size := (by have := hb1.size; first | omega | (simp at this; omega)); have hz1b : w.heap.size + 1 < w1.heap.size := (by have := hb1.size; first | omega | (simp at this; omega)))
    have HZ1 := Lib.hid (blk_below HZ0.out hb1 (by simp))
    obtain ⟨z0, z1, z2, zf⟩ := blk3 HZ1.out
    obtain ⟨s0, s1, s2⟩ := res3 HZ1.out (.int .i64 0) (.int .i64 0) (.slice none 0 0)
    clear hc1 hf1
    go_wp2_with (go_at_call 74; refine (l16Mask_any _ _).mono ?_; rintro e w' ⟨rfl, rfl⟩)
    (try simp only [Exit.inBlock, Exit.then]); refine bodyPost_ret (by simp [results, Try.results37, go_sem, s0, s1, s2]; try rfl) rfl ?_
    exact ⟨_, rfl, by simpa using Own.nil, ((hB1.setCell (Nat.le_succ _) _).setCell (Nat.le_succ _) _).setCell (Nat.le_succ _) _⟩
  · obtain ⟨N, rfl, rfl, hN, hl, hal⟩ := sqB_true hs
    have hvr := inR_true hv
    obtain ⟨V, rfl⟩ := Int.eq_ofNat_of_zero_le hvr.1
    have hN0 : 0 < N * N := Nat.mul_pos (by omega) (by omega)
    have hNN : N * N ≤ 1681 := Nat.mul_le_mul hN.2.1 hN.2.1
    have hnN : n = N * N := by omega
    subst hnN
    obtain ⟨b, o, rfl, -, -⟩ := HR.out.cells hN0
    have hPF := fun (b o c : Nat) (w : World) (B : Nat) (hr : RI w B (some ⟨b, o, none⟩) (N * N) xs) (hB : B ≤ w.heap.size) => l16Apply_any N V b o c xs w B hN (by omega) hr hB hl hal
    simp only [cond_true, Int.toNat_natCast]
    have hpl : (mskL N V (dataL N) xs (dataL N).length).length = N * N := by rw [mskL_len, hl]
    generalize mskL N V (dataL N) xs (dataL N).length = PL at hPF hpl ⊢
    have HPF := Lib.hid hPF
    have HPL := Lib.hid hpl
    clear hPF hl hlen hpl hal
    go_enter Try.func37, Try.ntmps37
    go_wp2_with fail
    (go_at_call 70; go_call (HC.out) as e1 w1 ⟨rfl, hb1⟩; obtain ⟨hc1, hf1⟩ := bcell hb1; have hB1 : Below w.heap.size w w1 := (below_then (by first | (go_grown; done) | (repeat (first | (with_reducible assumption) | (with_reducible exact Below.refl _ _) | (with_reducible refine below_drewN' ?_ _) | (with_reducible refine Below.drew ?_) | ((with_reducible refine Below.alloc ?_ ?_ _); rotate_left; focus (first | (simp; done) | (simp; omega) | omega)) | ((with_reducible refine Below.setCell ?_ ?_ _); rotate_left; focus (first | (simp; done) | (simp; omega) | omega))))) (by first | omega | (simp; done) | (simp; omega)) hb1); have hz1a : w.heap.size < w1.heap.size := (by have := hb1.size; first | omega | (simp at this; omega)); have hz1b : w.heap.size + 1 < w1.heap.size := (by have := hb1.size; first | omega | (simp at this; omega)))
    have HX1 := Lib.hid (blk_below HX0.out hb1 (by simp; omega))
    have HZ1 := Lib.hid (blk_below HZ0.out hb1 (by simp))
    have HR1 := Lib.hid (((HR.out.alloc (Nat.le_refl _) (.cells #[.int .i64 (N : Int), .int .i64 (N : Int), .slice (some ⟨b, o, none⟩) (N * N) cp] 37)).alloc (by simp) (.cells #[.int .i64 0, .int .i64 0, .slice none 0 0] 37)).below (hb1.mono (by simp; omega)))
    clear hc1 hf1
    obtain ⟨y0, y1, y2, -⟩ := blk3 HX1.out
    go_wp2_with first | (go_at_call 74; refine (l16Mask_any _ _).mono ?_; rintro e w' ⟨rfl, rfl⟩)
    (go_at_call 75; go_call (HPF.out b o cp _ w.heap.size HR1.out (by omega)) as e2 w2 ⟨v2, rfl, ho2, hb2⟩; obtain ⟨hc2, hf2⟩ := bcell hb2; have hB2 : Below w.heap.size w w2 := (below_then (by first | (go_grown; done) | (repeat (first | (with_reducible assumption) | (with_reducible exact Below.refl _ _) | (with_reducible refine below_drewN' ?_ _) | (with_reducible refine Below.drew ?_) | ((with_reducible refine Below.alloc ?_ ?_ _); rotate_left; focus (first | (simp; done) | (simp; omega) | omega)) | ((with_reducible refine Below.setCell ?_ ?_ _); rotate_left; focus (first | (simp; done) | (simp; omega) | omega))))) (by first | omega | (simp; done) | (simp; omega)) hb2); have hz2a : w.heap.size < w2.heap.size := (by have := hb2.size; first | omega | (simp at this; omega)); have hz2b : w.heap.size + 1 < w2.heap.size := (by have := hb2.size; first | omega | (simp at this; omega)))
    have hs2 := hb2.size
    obtain ⟨A2, c2, rfl, -⟩ := ho2.shape
    rw [HPL.out] at ho2 ⊢
    have HO2 := Lib.hid ho2
    have HZ2 := Lib.hid (blk_below HZ1.out hb2 (by omega))
    clear hc2 hf2 ho2 y0 y1 y2
    obtain ⟨z0, z1, z2, zf⟩ := blk3 HZ2.out
    obtain ⟨s0, s1, s2⟩ := res3 HZ2.out (.int .i64 (N : Int)) (.int .i64 (N : Int)) (.slice A2 (N * N) c2)
    go_wp2_with fail
    (try simp only [Exit.inBlock, Exit.then]); refine bodyPost_ret (by simp [results, Try.results37, go_sem, s0, s1, s2]; try rfl) rfl ?_
    exact ⟨_, rfl, ((((HO2.out.setLt (p := ⟨w.heap.size + 1, 0, none⟩) hz1b _).setLt (p := ⟨w.heap.size + 1, 1, none⟩) hz1b _).setLt (p := ⟨w.heap.size + 1, 2, none⟩) hz1b _)).more (by omega),
      ((hB2.setCell (Nat.le_succ _) _).setCell (Nat.le_succ _) _).setCell (Nat.le_succ _) _⟩
end Go.Proofs.Yteghpageamehkaa
