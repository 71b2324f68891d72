/-
  Contracts of chapter 13: the layout of a symbol.
-/
import Derived.Test.YtbgcbjfimjfbpaaC13E
import Derived.Test.YtbgcbjfimjfbpaaC07
namespace Go.Proofs.Ytbgcbjfimjfbpaa
set_option linter.unusedSimpArgs false
open Go.RowKit

/-- How many blocks a symbol of E elements has, and how many checks each, over a field of S elements at level l. -/
def cN (E S : Nat) : Nat := (E + (S - 1) - 1) / (S - 1)
def kN (E S l : Nat) : Nat := max 2 (min 64 (E * l / 100 / cN E S))
def layCnt (kind p k col size : Int) : Nat := cN (elN kind p k col size) (fsize p k).toNat
def layChk (kind p k col size l : Int) : Nat := kN (elN kind p k col size) (fsize p k).toNat l.toNat
def layDat (kind p k col size l : Int) : Int := (elN kind p k col size : Nat) - ((layCnt kind p k col size * layChk kind p k col size l : Nat) : Int)
theorem cN_bd {E S : Nat} (h1 : 1 ≤ E) (h2 : E ≤ 1680) (h3 : 8 ≤ S) : 1 ≤ cN E S ∧ cN E S ≤ 1680 := by
  unfold cN
  refine ⟨(Nat.one_le_div_iff (by omega)).2 (by omega), ?_⟩
  have : (E + (S - 1) - 1) / (S - 1) * (S - 1) ≤ E + (S - 1) - 1 := Nat.div_mul_le_self _ _
  generalize (E + (S - 1) - 1) / (S - 1) = q at *
  rcases Nat.lt_or_ge 1680 q with hq | hq
  · have h4 := Nat.mul_le_mul (show 1681 ≤ q from hq) (Nat.le_refl (S - 1))
    omega
  · exact hq
theorem kN_bd (E S l : Nat) : 2 ≤ kN E S l ∧ kN E S l ≤ 64 := by unfold kN; omega
set_option maxHeartbeats 4000000 in
theorem layout_any (s : ByteArray) (kind p k g col : Int) (A1 A2 : Option Addr) (n1 c1 n2 c2 : Nat) (sz lv : List Int) (size : Int) (j : Nat) (w : World) (B : Nat) (h : FamSz kind p k g col size) (hr : RI w B A2 n2 lv) (hB : B ≤ w.heap.size) (hj : j < n2) (hl1 : 1 ≤ nth lv j) (hl2 : nth lv j ≤ 80) :
    Calls Try.prog 53 #[.agg #[.string s, .int .i64 kind, .int .i64 p, .int .i64 k, .int .i64 g, .slice A1 n1 c1, .int .i64 col, .slice A2 n2 c2], .int .i64 size, .int .i64 j] w fun e w' => e = .returned (.agg #[.int .i64 p, .int .i64 k, .int .i64 g, .int .i64 (layDat kind p k col size (nth lv j)), .int .i64 (layChk kind p k col size (nth lv j) : Nat), .int .i64 (layCnt kind p k col size : Nat)]) ∧ Below w.heap.size w w' := by
  have HE := Lib.hid (fun w => elements_any s kind p k g col A1 A2 n1 c1 n2 c2 sz lv size w h)
  obtain ⟨hf, S, hS, hS8, hS256⟩ := h.field
  have HS := Lib.hid (fun w => FieldSize_any p k g w hf)
  obtain ⟨hE1, hE2⟩ := elN_bd h
  unfold layDat layChk layCnt
  rw [hS] at HS
  rw [hS, Int.toNat_natCast]
  generalize elN kind p k col size = E at *
  obtain ⟨b, o, rfl, -, hc⟩ := hr.cells (by omega)
  have hck := hc j hj
  obtain ⟨l, hl⟩ := Int.eq_ofNat_of_zero_le (show 0 ≤ nth lv j by omega)
  have HRL := Lib.hid (fun (w' : World) (hb : Below w.heap.size w w') => show w'.cell? ⟨b, o + j, none⟩ = some (.int .i64 (l : Int)) by rw [← hl, ← hck]; exact hb.cell (by have := World.block_lt_of_cell? w ⟨b, o + j, none⟩ hck; exact this))
  rw [hl] at hl1 hl2
  rw [hl, Int.toNat_natCast]
  obtain ⟨hc1, hc2⟩ := cN_bd hE1 hE2 hS8
  obtain ⟨hk1, hk2⟩ := kN_bd E S l
  have hS1 : (S : Int) - 1 = ((S - 1 : Nat) : Int) := by omega
  have hCe : ((E : Int) + ((S - 1 : Nat) : Int) - 1) / ((S - 1 : Nat) : Int) = (cN E S : Nat) := by
    rw [show (E : Int) + ((S - 1 : Nat) : Int) - 1 = ((E + (S - 1) - 1 : Nat) : Int) by omega, ← Int.natCast_ediv]; rfl
  have hp1 : (E : Int) * l = ((E * l : Nat) : Int) := by simp
  have hpb := Nat.mul_le_mul hE2 (show l ≤ 80 by omega)
  have hK : kN E S l = max 2 (min 64 (E * l / 100 / cN E S)) := rfl
  have hq2 : ((E * l : Nat) : Int) / 100 = ((E * l / 100 : Nat) : Int) := by simp
  have hb2 : E * l / 100 ≤ E * l := Nat.div_le_self _ _
  have hq3 : ((E * l / 100 : Nat) : Int) / (cN E S : Nat) = ((E * l / 100 / cN E S : Nat) : Int) := by simp
  have hb3 : E * l / 100 / cN E S ≤ E * l / 100 := Nat.div_le_self _ _
  have hp4 : ((cN E S : Nat) : Int) * (kN E S l : Nat) = ((cN E S * kN E S l : Nat) : Int) := by simp
  have hpb4 := Nat.mul_le_mul hc2 hk2
  have hpb4' : cN E S * kN E S l ≤ 107520 := by omega
  have hpb' : E * l ≤ 134400 := by omega
  have hm1 : S - 1 ≤ 255 := by omega
  have hm0 : 1 ≤ S - 1 := by omega
  clear hl hc hck hf hS h hr hS8 hS256
  generalize cN E S * kN E S l = P4 at *
  generalize kN E S l = K at *
  generalize E * l / 100 / cN E S = P3 at *
  generalize E * l / 100 = P2 at *
  generalize E * l = P1 at *
  generalize cN E S = C at *
  have hm2 : ((S - 1 : Nat) : Int) ≤ 255 := by omega
  generalize S - 1 = M at *
  have hM0 : ¬ M = 0 := by omega
  have hC0 : ¬ C = 0 := by omega
  have main : ∀ (hx : (P3 ≤ 2 ∧ K = 2) ∨ (2 < P3 ∧ P3 < 64 ∧ K = P3) ∨ (64 ≤ P3 ∧ K = 64)), Calls Try.prog 53 #[.agg #[.string s, .int .i64 kind, .int .i64 p, .int .i64 k, .int .i64 g, .slice A1 n1 c1, .int .i64 col, .slice (some ⟨b, o, none⟩) n2 c2], .int .i64 size, .int .i64 j] w fun e w' => e = .returned (.agg #[.int .i64 p, .int .i64 k, .int .i64 g, .int .i64 ((E : Int) - (P4 : Int)), .int .i64 (K : Int), .int .i64 (C : Int)]) ∧ Below w.heap.size w w' := by
    intro hx
    clear hK
    rcases hx with ⟨hx, rfl⟩ | ⟨hx, hy, rfl⟩ | ⟨hx, rfl⟩
    · go_enter Try.func53, Try.ntmps53
      go_wp2_with (go_at_call 69; with_reducible refine (HE.out _).mono ?_; rintro e1 w1 ⟨rfl, hb1⟩; obtain ⟨hc1, hf1⟩ := bcell hb1; have hB1 : Below w.heap.size w w1 := (below_then (by first | (go_grown; done) | (repeat (first | (with_reducible assumption) | (with_reducible exact Below.refl _ _) | (with_reducible refine below_drewN' ?_ _) | (with_reducible refine Below.drew ?_) | ((with_reducible refine Below.alloc ?_ ?_ _); rotate_left; focus (first | (simp; done) | (simp; omega) | omega)) | ((with_reducible refine Below.setCell ?_ ?_ _); rotate_left; focus (first | (simp; done) | (simp; omega) | omega))))) (by first | omega | (simp; done) | (simp; omega)) hb1); have hz1a : w.heap.size < w1.heap.size := (by have := hb1.size; first | omega | (simp at this; omega)); have hz1b : w.heap.size + 1 < w1.heap.size := (by have := hb1.size; first | omega | (simp at this; omega)))
      have hh1 := blk_below (blk_alloc (heap_alloc_new w (.cells #[.string s, .int .i64 kind, .int .i64 p, .int .i64 k, .int .i64 g, .slice A1 n1 c1, .int .i64 col, .slice (some ⟨b, o, none⟩) n2 c2] 34)) (by simp)) hb1 (by simp; omega)
      have hr1 : w1.heap[w.heap.size + 1]? = some (.cells #[.int .i64 0, .int .i64 0, .int .i64 0, .int .i64 0, .int .i64 0, .int .i64 0] 30 (0, 0)) := by
        refine blk_below ?_ hb1 (by first | (simp; done) | (simp; omega))
        (repeat (first | (with_reducible exact heap_alloc_new _ _) | (rw [heap_drew1]) | (rw [heap_drewN1]) | (rw [Below.heap_setCell _ _ _ _ (by first | omega | (simp; done) | (simp; omega))]) | (rw [Below.heap_alloc _ _ _ (by first | omega | (simp; done) | (simp; omega))]) | (exact heap_alloc_at (by first | omega | (simp; done) | (simp; omega)))))
      (go_at_call 91; with_reducible refine (HS.out _).mono ?_; rintro e2 w2 ⟨rfl, hb2⟩; obtain ⟨hc2, hf2⟩ := bcell hb2; have hB2 : Below w.heap.size w w2 := (below_then (by first | (go_grown; done) | (repeat (first | (with_reducible assumption) | (with_reducible exact Below.refl _ _) | (with_reducible refine below_drewN' ?_ _) | (with_reducible refine Below.drew ?_) | ((with_reducible refine Below.alloc ?_ ?_ _); rotate_left; focus (first | (simp; done) | (simp; omega) | omega)) | ((with_reducible refine Below.setCell ?_ ?_ _); rotate_left; focus (first | (simp; done) | (simp; omega) | omega))))) (by first | omega | (simp; done) | (simp; omega)) hb2); have hz2a : w.heap.size < w2.heap.size := (by have := hb2.size; first | omega | (simp at this; omega)); have hz2b : w.heap.size + 1 < w2.heap.size := (by have := hb2.size; first | omega | (simp at this; omega)))
      have hh2 := blk_below hh1 hb2 hz1a
      have hr2 := blk_below hr1 hb2 hz1b
      have hck := HRL.out w2 hB2
      obtain ⟨y0, y1, y2, y3, y4, y5, y6, y7, -⟩ := blk8 hh2
      obtain ⟨z0, z1, z2, z3, z4, z5, zf⟩ := blk6 hr2
      have hp5 := hp4
      try simp only [Int.cast_ofNat_Int] at hp5
      clear hc1 hf1 hc2 hf2 hh1 hr1 hh2
      go_wp2_with fail
      obtain ⟨s0, s1, s2, s3, s4, s5, -⟩ := blk6 (res6 hr2 (.int .i64 p) (.int .i64 k) (.int .i64 g) (.int .i64 ((E : Int) - (P4 : Int))) (.int .i64 2) (.int .i64 (C : Int)))
      (try simp only [Exit.inBlock, Exit.then]); refine bodyPost_ret (by simp [results, Try.results53, go_sem, s0, s1, s2, s3, s4, s5]; try rfl) rfl ?_
      exact ⟨rfl, by (repeat (first | (with_reducible assumption) | (with_reducible exact Below.refl _ _) | (with_reducible refine below_drewN' ?_ _) | (with_reducible refine Below.drew ?_) | ((with_reducible refine Below.alloc ?_ ?_ _); rotate_left; focus (first | (simp; done) | (simp; omega) | omega)) | ((with_reducible refine Below.setCell ?_ ?_ _); rotate_left; focus (first | (simp; done) | (simp; omega) | omega))))⟩
    · go_enter Try.func53, Try.ntmps53
      go_wp2_with (go_at_call 69; with_reducible refine (HE.out _).mono ?_; rintro e1 w1 ⟨rfl, hb1⟩; obtain ⟨hc1, hf1⟩ := bcell hb1; have hB1 : Below w.heap.size w w1 := (below_then (by first | (go_grown; done) | (repeat (first | (with_reducible assumption) | (with_reducible exact Below.refl _ _) | (with_reducible refine below_drewN' ?_ _) | (with_reducible refine Below.drew ?_) | ((with_reducible refine Below.alloc ?_ ?_ _); rotate_left; focus (first | (simp; done) | (simp; omega) | omega)) | ((with_reducible refine Below.setCell ?_ ?_ _); rotate_left; focus (first | (simp; done) | (simp; omega) | omega))))) (by first | omega | (simp; done) | (simp; omega)) hb1); have hz1a : w.heap.size < w1.heap.size := (by have := hb1.size; first | omega | (simp at this; omega)); have hz1b : w.heap.size + 1 < w1.heap.size := (by have := hb1.size; first | omega | (simp at this; omega)))
      have hh1 := blk_below (blk_alloc (heap_alloc_new w (.cells #[.string s, .int .i64 kind, .int .i64 p, .int .i64 k, .int .i64 g, .slice A1 n1 c1, .int .i64 col, .slice (some ⟨b, o, none⟩) n2 c2] 34)) (by simp)) hb1 (by simp; omega)
      have hr1 : w1.heap[w.heap.size + 1]? = some (.cells #[.int .i64 0, .int .i64 0, .int .i64 0, .int .i64 0, .int .i64 0, .int .i64 0] 30 (0, 0)) := by
        refine blk_below ?_ hb1 (by first | (simp; done) | (simp; omega))
        (repeat (first | (with_reducible exact heap_alloc_new _ _) | (rw [heap_drew1]) | (rw [heap_drewN1]) | (rw [Below.heap_setCell _ _ _ _ (by first | omega | (simp; done) | (simp; omega))]) | (rw [Below.heap_alloc _ _ _ (by first | omega | (simp; done) | (simp; omega))]) | (exact heap_alloc_at (by first | omega | (simp; done) | (simp; omega)))))
      (go_at_call 91; with_reducible refine (HS.out _).mono ?_; rintro e2 w2 ⟨rfl, hb2⟩; obtain ⟨hc2, hf2⟩ := bcell hb2; have hB2 : Below w.heap.size w w2 := (below_then (by first | (go_grown; done) | (repeat (first | (with_reducible assumption) | (with_reducible exact Below.refl _ _) | (with_reducible refine below_drewN' ?_ _) | (with_reducible refine Below.drew ?_) | ((with_reducible refine Below.alloc ?_ ?_ _); rotate_left; focus (first | (simp; done) | (simp; omega) | omega)) | ((with_reducible refine Below.setCell ?_ ?_ _); rotate_left; focus (first | (simp; done) | (simp; omega) | omega))))) (by first | omega | (simp; done) | (simp; omega)) hb2); have hz2a : w.heap.size < w2.heap.size := (by have := hb2.size; first | omega | (simp at this; omega)); have hz2b : w.heap.size + 1 < w2.heap.size := (by have := hb2.size; first | omega | (simp at this; omega)))
      have hh2 := blk_below hh1 hb2 hz1a
      have hr2 := blk_below hr1 hb2 hz1b
      have hck := HRL.out w2 hB2
      obtain ⟨y0, y1, y2, y3, y4, y5, y6, y7, -⟩ := blk8 hh2
      obtain ⟨z0, z1, z2, z3, z4, z5, zf⟩ := blk6 hr2
      have hp5 := hp4
      try simp only [Int.cast_ofNat_Int] at hp5
      clear hc1 hf1 hc2 hf2 hh1 hr1 hh2
      go_wp2_with fail
      obtain ⟨s0, s1, s2, s3, s4, s5, -⟩ := blk6 (res6 hr2 (.int .i64 p) (.int .i64 k) (.int .i64 g) (.int .i64 ((E : Int) - (P4 : Int))) (.int .i64 (K : Int)) (.int .i64 (C : Int)))
      (try simp only [Exit.inBlock, Exit.then]); refine bodyPost_ret (by simp [results, Try.results53, go_sem, s0, s1, s2, s3, s4, s5]; try rfl) rfl ?_
      exact ⟨rfl, by (repeat (first | (with_reducible assumption) | (with_reducible exact Below.refl _ _) | (with_reducible refine below_drewN' ?_ _) | (with_reducible refine Below.drew ?_) | ((with_reducible refine Below.alloc ?_ ?_ _); rotate_left; focus (first | (simp; done) | (simp; omega) | omega)) | ((with_reducible refine Below.setCell ?_ ?_ _); rotate_left; focus (first | (simp; done) | (simp; omega) | omega))))⟩
    · go_enter Try.func53, Try.ntmps53
      go_wp2_with (go_at_call 69; with_reducible refine (HE.out _).mono ?_; rintro e1 w1 ⟨rfl, hb1⟩; obtain ⟨hc1, hf1⟩ := bcell hb1; have hB1 : Below w.heap.size w w1 := (below_then (by first | (go_grown; done) | (repeat (first | (with_reducible assumption) | (with_reducible exact Below.refl _ _) | (with_reducible refine below_drewN' ?_ _) | (with_reducible refine Below.drew ?_) | ((with_reducible refine Below.alloc ?_ ?_ _); rotate_left; focus (first | (simp; done) | (simp; omega) | omega)) | ((with_reducible refine Below.setCell ?_ ?_ _); rotate_left; focus (first | (simp; done) | (simp; omega) | omega))))) (by first | omega | (simp; done) | (simp; omega)) hb1); have hz1a : w.heap.size < w1.heap.size := (by have := hb1.size; first | omega | (simp at this; omega)); have hz1b : w.heap.size + 1 < w1.heap.size := (by have := hb1.size; first | omega | (simp at this; omega)))
      have hh1 := blk_below (blk_alloc (heap_alloc_new w (.cells #[.string s, .int .i64 kind, .int .i64 p, .int .i64 k, .int .i64 g, .slice A1 n1 c1, .int .i64 col, .slice (some ⟨b, o, none⟩) n2 c2] 34)) (by simp)) hb1 (by simp; omega)
      have hr1 : w1.heap[w.heap.size + 1]? = some (.cells #[.int .i64 0, .int .i64 0, .int .i64 0, .int .i64 0, .int .i64 0, .int .i64 0] 30 (0, 0)) := by
        refine blk_below ?_ hb1 (by first | (simp; done) | (simp; omega))
        (repeat (first | (with_reducible exact heap_alloc_new _ _) | (rw [heap_drew1]) | (rw [heap_drewN1]) | (rw [Below.heap_setCell _ _ _ _ (by first | omega | (simp; done) | (simp; omega))]) | (rw [Below.heap_alloc _ _ _ (by first | omega | (simp; done) | (simp; omega))]) | (exact heap_alloc_at (by first | omega | (simp; done) | (simp; omega)))))
      (go_at_call 91; with_reducible refine (HS.out _).mono ?_; rintro e2 w2 ⟨rfl, hb2⟩; obtain ⟨hc2, hf2⟩ := bcell hb2; have hB2 : Below w.heap.size w w2 := (below_then (by first | (go_grown; done) | (repeat (first | (with_reducible assumption) | (with_reducible exact Below.refl _ _) | (with_reducible refine below_drewN' ?_ _) | (with_reducible refine Below.drew ?_) | ((with_reducible refine Below.alloc ?_ ?_ _); rotate_left; focus (first | (simp; done) | (simp; omega) | omega)) | ((with_reducible refine Below.setCell ?_ ?_ _); rotate_left; focus (first | (simp; done) | (simp; omega) | omega))))) (by first | omega | (simp; done) | (simp; omega)) hb2); have hz2a : w.heap.size < w2.heap.size := (by have := hb2.size; first | omega | (simp at this; omega)); have hz2b : w.heap.size + 1 < w2.heap.size := (by have := hb2.size; first | omega | (simp at this; omega)))
      have hh2 := blk_below hh1 hb2 hz1a
      have hr2 := blk_below hr1 hb2 hz1b
      have hck := HRL.out w2 hB2
      obtain ⟨y0, y1, y2, y3, y4, y5, y6, y7, -⟩ := blk8 hh2
      obtain ⟨z0, z1, z2, z3, z4, z5, zf⟩ := blk6 hr2
      have hp5 := hp4
      try simp only [Int.cast_ofNat_Int] at hp5
      clear hc1 hf1 hc2 hf2 hh1 hr1 hh2
      go_wp2_with fail
      obtain ⟨s0, s1, s2, s3, s4, s5, -⟩ := blk6 (res6 hr2 (.int .i64 p) (.int .i64 k) (.int .i64 g) (.int .i64 ((E : Int) - (P4 : Int))) (.int .i64 64) (.int .i64 (C : Int)))
      (try simp only [Exit.inBlock, Exit.then]); refine bodyPost_ret (by simp [results, Try.results53, go_sem, s0, s1, s2, s3, s4, s5]; try rfl) rfl ?_
      exact ⟨rfl, by (repeat (first | (with_reducible assumption) | (with_reducible exact Below.refl _ _) | (with_reducible refine below_drewN' ?_ _) | (with_reducible refine Below.drew ?_) | ((with_reducible refine Below.alloc ?_ ?_ _); rotate_left; focus (first | (simp; done) | (simp; omega) | omega)) | ((with_reducible refine Below.setCell ?_ ?_ _); rotate_left; focus (first | (simp; done) | (simp; omega) | omega))))⟩
  exact main (by rw [hK]; omega)

set_option maxHeartbeats 4000000 in
theorem l13Layout_any (s : ByteArray) (kind p k g col : Int) (A1 A2 : Option Addr) (n1 c1 n2 c2 : Nat) (sz lv : List Int) (size : Int) (j : Nat) (w : World) (B : Nat) (h : FamSz kind p k g col size) (hr : RI w B A2 n2 lv) (hB : B ≤ w.heap.size) (hj : j < n2) (hl1 : 1 ≤ nth lv j) (hl2 : nth lv j ≤ 80) :
    Calls Try.prog 48 #[.agg #[.string s, .int .i64 kind, .int .i64 p, .int .i64 k, .int .i64 g, .slice A1 n1 c1, .int .i64 col, .slice A2 n2 c2], .int .i64 size, .int .i64 j] w fun e w' => e = .returned (.agg #[.int .i64 p, .int .i64 k, .int .i64 g, .int .i64 (layDat kind p k col size (nth lv j)), .int .i64 (layChk kind p k col size (nth lv j) : Nat), .int .i64 (layCnt kind p k col size : Nat)]) ∧ Below w.heap.size w w' := by
  have HE := Lib.hid (fun w => l13Elements_any s kind p k g col A1 A2 n1 c1 n2 c2 sz lv size w h)
  obtain ⟨hf, S, hS, hS8, hS256⟩ := h.field
  have HS := Lib.hid (fun w => l02Size_any p k g w hf)
  obtain ⟨hE1, hE2⟩ := elN_bd h
  unfold layDat layChk layCnt
  rw [hS] at HS
  rw [hS, Int.toNat_natCast]
  generalize elN kind p k col size = E at *
  obtain ⟨b, o, rfl, -, hc⟩ := hr.cells (by omega)
  have hck := hc j hj
  obtain ⟨l, hl⟩ := Int.eq_ofNat_of_zero_le (show 0 ≤ nth lv j by omega)
  have HRL := Lib.hid (fun (w' : World) (hb : Below w.heap.size w w') => show w'.cell? ⟨b, o + j, none⟩ = some (.int .i64 (l : Int)) by rw [← hl, ← hck]; exact hb.cell (by have := World.block_lt_of_cell? w ⟨b, o + j, none⟩ hck; exact this))
  rw [hl] at hl1 hl2
  rw [hl, Int.toNat_natCast]
  obtain ⟨hc1, hc2⟩ := cN_bd hE1 hE2 hS8
  obtain ⟨hk1, hk2⟩ := kN_bd E S l
  have hS1 : (S : Int) - 1 = ((S - 1 : Nat) : Int) := by omega
  have hCe : ((E : Int) + ((S - 1 : Nat) : Int) - 1) / ((S - 1 : Nat) : Int) = (cN E S : Nat) := by
    rw [show (E : Int) + ((S - 1 : Nat) : Int) - 1 = ((E + (S - 1) - 1 : Nat) : Int) by omega, ← Int.natCast_ediv]; rfl
  have hp1 : (E : Int) * l = ((E * l : Nat) : Int) := by simp
  have hpb := Nat.mul_le_mul hE2 (show l ≤ 80 by omega)
  have hK : kN E S l = max 2 (min 64 (E * l / 100 / cN E S)) := rfl
  have hq2 : ((E * l : Nat) : Int) / 100 = ((E * l / 100 : Nat) : Int) := by simp
  have hb2 : E * l / 100 ≤ E * l := Nat.div_le_self _ _
  have hq3 : ((E * l / 100 : Nat) : Int) / (cN E S : Nat) = ((E * l / 100 / cN E S : Nat) : Int) := by simp
  have hb3 : E * l / 100 / cN E S ≤ E * l / 100 := Nat.div_le_self _ _
  have hp4 : ((cN E S : Nat) : Int) * (kN E S l : Nat) = ((cN E S * kN E S l : Nat) : Int) := by simp
  have hpb4 := Nat.mul_le_mul hc2 hk2
  have hpb4' : cN E S * kN E S l ≤ 107520 := by omega
  have hpb' : E * l ≤ 134400 := by omega
  have hm1 : S - 1 ≤ 255 := by omega
  have hm0 : 1 ≤ S - 1 := by omega
  clear hl hc hck hf hS h hr hS8 hS256
  generalize cN E S * kN E S l = P4 at *
  generalize kN E S l = K at *
  generalize E * l / 100 / cN E S = P3 at *
  generalize E * l / 100 = P2 at *
  generalize E * l = P1 at *
  generalize cN E S = C at *
  have hm2 : ((S - 1 : Nat) : Int) ≤ 255 := by omega
  generalize S - 1 = M at *
  have hM0 : ¬ M = 0 := by omega
  have hC0 : ¬ C = 0 := by omega
  have main : ∀ (hx : (P3 ≤ 2 ∧ K = 2) ∨ (2 < P3 ∧ P3 < 64 ∧ K = P3) ∨ (64 ≤ P3 ∧ K = 64)), Calls Try.prog 48 #[.agg #[.string s, .int .i64 kind, .int .i64 p, .int .i64 k, .int .i64 g, .slice A1 n1 c1, .int .i64 col, .slice (some ⟨b, o, none⟩) n2 c2], .int .i64 size, .int .i64 j] w fun e w' => e = .returned (.agg #[.int .i64 p, .int .i64 k, .int .i64 g, .int .i64 ((E : Int) - (P4 : Int)), .int .i64 (K : Int), .int .i64 (C : Int)]) ∧ Below w.heap.size w w' := by
    intro hx
    clear hK
    rcases hx with ⟨hx, rfl⟩ | ⟨hx, hy, rfl⟩ | ⟨hx, rfl⟩
    · go_enter Try.func48, Try.ntmps48
      go_wp2_with (go_at_call 86; with_reducible refine (HE.out _).mono ?_; rintro e1 w1 ⟨rfl, hb1⟩; obtain ⟨hc1, hf1⟩ := bcell hb1; have hB1 : Below w.heap.size w w1 := (below_then (by first | (go_grown; done) | (repeat (first | (with_reducible assumption) | (with_reducible exact Below.refl _ _) | (with_reducible refine below_drewN' ?_ _) | (with_reducible refine Below.drew ?_) | ((with_reducible refine Below.alloc ?_ ?_ _); rotate_left; focus (first | (simp; done) | (simp; omega) | omega)) | ((with_reducible refine Below.setCell ?_ ?_ _); rotate_left; focus (first | (simp; done) | (simp; omega) | omega))))) (by first | omega | (simp; done) | (simp; omega)) hb1); have hz1a : w.heap.size < w1.heap.size := (by have := hb1.size; first | omega | (simp at this; omega)); have hz1b : w.heap.size + 1 < w1.heap.size := (by have := hb1.size; first | omega | (simp at this; omega)))
      have hh1 := blk_below (blk_alloc (heap_alloc_new w (.cells #[.string s, .int .i64 kind, .int .i64 p, .int .i64 k, .int .i64 g, .slice A1 n1 c1, .int .i64 col, .slice (some ⟨b, o, none⟩) n2 c2] 34)) (by simp)) hb1 (by simp; omega)
      have hr1 : w1.heap[w.heap.size + 1]? = some (.cells #[.int .i64 0, .int .i64 0, .int .i64 0, .int .i64 0, .int .i64 0, .int .i64 0] 30 (0, 0)) := by
        refine blk_below ?_ hb1 (by first | (simp; done) | (simp; omega))
        (repeat (first | (with_reducible exact heap_alloc_new _ _) | (rw [heap_drew1]) | (rw [heap_drewN1]) | (rw [Below.heap_setCell _ _ _ _ (by first | omega | (simp; done) | (simp; omega))]) | (rw [Below.heap_alloc _ _ _ (by first | omega | (simp; done) | (simp; omega))]) | (exact heap_alloc_at (by first | omega | (simp; done) | (simp; omega)))))
      (go_at_call 88; with_reducible refine (HS.out _).mono ?_; rintro e2 w2 ⟨rfl, hb2⟩; obtain ⟨hc2, hf2⟩ := bcell hb2; have hB2 : Below w.heap.size w w2 := (below_then (by first | (go_grown; done) | (repeat (first | (with_reducible assumption) | (with_reducible exact Below.refl _ _) | (with_reducible refine below_drewN' ?_ _) | (with_reducible refine Below.drew ?_) | ((with_reducible refine Below.alloc ?_ ?_ _); rotate_left; focus (first | (simp; done) | (simp; omega) | omega)) | ((with_reducible refine Below.setCell ?_ ?_ _); rotate_left; focus (first | (simp; done) | (simp; omega) | omega))))) (by first | omega | (simp; done) | (simp; omega)) hb2); have hz2a : w.heap.size < w2.heap.size := (by have := hb2.size; first | omega | (simp at this; omega)); have hz2b : w.heap.size + 1 < w2.heap.size := (by have := hb2.size; first | omega | (simp at this; omega)))
      have hh2 := blk_below hh1 hb2 hz1a
      have hr2 := blk_below hr1 hb2 hz1b
      have hck := HRL.out w2 hB2
      obtain ⟨y0, y1, y2, y3, y4, y5, y6, y7, -⟩ := blk8 hh2
      obtain ⟨z0, z1, z2, z3, z4, z5, zf⟩ := blk6 hr2
      have hp5 := hp4
      try simp only [Int.cast_ofNat_Int] at hp5
      clear hc1 hf1 hc2 hf2 hh1 hr1 hh2
      go_wp2_with fail
      obtain ⟨s0, s1, s2, s3, s4, s5, -⟩ := blk6 (res6 hr2 (.int .i64 p) (.int .i64 k) (.int .i64 g) (.int .i64 ((E : Int) - (P4 : Int))) (.int .i64 2) (.int .i64 (C : Int)))
      (try simp only [Exit.inBlock, Exit.then]); refine bodyPost_ret (by simp [results, Try.results48, go_sem, s0, s1, s2, s3, s4, s5]; try rfl) rfl ?_
      exact ⟨rfl, by (repeat (first | (with_reducible assumption) | (with_reducible exact Below.refl _ _) | (with_reducible refine below_drewN' ?_ _) | (with_reducible refine Below.drew ?_) | ((with_reducible refine Below.alloc ?_ ?_ _); rotate_left; focus (first | (simp; done) | (simp; omega) | omega)) | ((with_reducible refine Below.setCell ?_ ?_ _); rotate_left; focus (first | (simp; done) | (simp; omega) | omega))))⟩
    · go_enter Try.func48, Try.ntmps48
      go_wp2_with (go_at_call 86; with_reducible refine (HE.out _).mono ?_; rintro e1 w1 ⟨rfl, hb1⟩; obtain ⟨hc1, hf1⟩ := bcell hb1; have hB1 : Below w.heap.size w w1 := (below_then (by first | (go_grown; done) | (repeat (first | (with_reducible assumption) | (with_reducible exact Below.refl _ _) | (with_reducible refine below_drewN' ?_ _) | (with_reducible refine Below.drew ?_) | ((with_reducible refine Below.alloc ?_ ?_ _); rotate_left; focus (first | (simp; done) | (simp; omega) | omega)) | ((with_reducible refine Below.setCell ?_ ?_ _); rotate_left; focus (first | (simp; done) | (simp; omega) | omega))))) (by first | omega | (simp; done) | (simp; omega)) hb1); have hz1a : w.heap.size < w1.heap.size := (by have := hb1.size; first | omega | (simp at this; omega)); have hz1b : w.heap.size + 1 < w1.heap.size := (by have := hb1.size; first | omega | (simp at this; omega)))
      have hh1 := blk_below (blk_alloc (heap_alloc_new w (.cells #[.string s, .int .i64 kind, .int .i64 p, .int .i64 k, .int .i64 g, .slice A1 n1 c1, .int .i64 col, .slice (some ⟨b, o, none⟩) n2 c2] 34)) (by simp)) hb1 (by simp; omega)
      have hr1 : w1.heap[w.heap.size + 1]? = some (.cells #[.int .i64 0, .int .i64 0, .int .i64 0, .int .i64 0, .int .i64 0, .int .i64 0] 30 (0, 0)) := by
        refine blk_below ?_ hb1 (by first | (simp; done) | (simp; omega))
        (repeat (first | (with_reducible exact heap_alloc_new _ _) | (rw [heap_drew1]) | (rw [heap_drewN1]) | (rw [Below.heap_setCell _ _ _ _ (by first | omega | (simp; done) | (simp; omega))]) | (rw [Below.heap_alloc _ _ _ (by first | omega | (simp; done) | (simp; omega))]) | (exact heap_alloc_at (by first | omega | (simp; done) | (simp; omega)))))
      (go_at_call 88; with_reducible refine (HS.out _).mono ?_; rintro e2 w2 ⟨rfl, hb2⟩; obtain ⟨hc2, hf2⟩ := bcell hb2; have hB2 : Below w.heap.size w w2 := (below_then (by first | (go_grown; done) | (repeat (first | (with_reducible assumption) | (with_reducible exact Below.refl _ _) | (with_reducible refine below_drewN' ?_ _) | (with_reducible refine Below.drew ?_) | ((with_reducible refine Below.alloc ?_ ?_ _); rotate_left; focus (first | (simp; done) | (simp; omega) | omega)) | ((with_reducible refine Below.setCell ?_ ?_ _); rotate_left; focus (first | (simp; done) | (simp; omega) | omega))))) (by first | omega | (simp; done) | (simp; omega)) hb2); have hz2a : w.heap.size < w2.heap.size := (by have := hb2.size; first | omega | (simp at this; omega)); have hz2b : w.heap.size + 1 < w2.heap.size := (by have := hb2.size; first | omega | (simp at this; omega)))
      have hh2 := blk_below hh1 hb2 hz1a
      have hr2 := blk_below hr1 hb2 hz1b
      have hck := HRL.out w2 hB2
      obtain ⟨y0, y1, y2, y3, y4, y5, y6, y7, -⟩ := blk8 hh2
      obtain ⟨z0, z1, z2, z3, z4, z5, zf⟩ := blk6 hr2
      have hp5 := hp4
      try simp only [Int.cast_ofNat_Int] at hp5
      clear hc1 hf1 hc2 hf2 hh1 hr1 hh2
      go_wp2_with fail
      obtain ⟨s0, s1, s2, s3, s4, s5, -⟩ := blk6 (res6 hr2 (.int .i64 p) (.int .i64 k) (.int .i64 g) (.int .i64 ((E : Int) - (P4 : Int))) (.int .i64 (K : Int)) (.int .i64 (C : Int)))
      (try simp only [Exit.inBlock, Exit.then]); refine bodyPost_ret (by simp [results, Try.results48, go_sem, s0, s1, s2, s3, s4, s5]; try rfl) rfl ?_
      exact ⟨rfl, by (repeat (first | (with_reducible assumption) | (with_reducible exact Below.refl _ _) | (with_reducible refine below_drewN' ?_ _) | (with_reducible refine Below.drew ?_) | ((with_reducible refine Below.alloc ?_ ?_ _); rotate_left; focus (first | (simp; done) | (simp; omega) | omega)) | ((with_reducible refine Below.setCell ?_ ?_ _); rotate_left; focus (first | (simp; done) | (simp; omega) | omega))))⟩
    · go_enter Try.func48, Try.ntmps48
      go_wp2_with (go_at_call 86; with_reducible refine (HE.out _).mono ?_; rintro e1 w1 ⟨rfl, hb1⟩; obtain ⟨hc1, hf1⟩ := bcell hb1; have hB1 : Below w.heap.size w w1 := (below_then (by first | (go_grown; done) | (repeat (first | (with_reducible assumption) | (with_reducible exact Below.refl _ _) | (with_reducible refine below_drewN' ?_ _) | (with_reducible refine Below.drew ?_) | ((with_reducible refine Below.alloc ?_ ?_ _); rotate_left; focus (first | (simp; done) | (simp; omega) | omega)) | ((with_reducible refine Below.setCell ?_ ?_ _); rotate_left; focus (first | (simp; done) | (simp; omega) | omega))))) (by first | omega | (simp; done) | (simp; omega)) hb1); have hz1a : w.heap.size < w1.heap.size := (by have := hb1.size; first | omega | (simp at this; omega)); have hz1b : w.heap.size + 1 < w1.heap.size := (by have := hb1.size; first | omega | (simp at this; omega)))
      have hh1 := blk_below (blk_alloc (heap_alloc_new w (.cells #[.string s, .int .i64 kind, .int .i64 p, .int .i64 k, .int .i64 g, .slice A1 n1 c1, .int .i64 col, .slice (some ⟨b, o, none⟩) n2 c2] 34)) (by simp)) hb1 (by simp; omega)
      have hr1 : w1.heap[w.heap.size + 1]? = some (.cells #[.int .i64 0, .int .i64 0, .int .i64 0, .int .i64 0, .int .i64 0, .int .i64 0] 30 (0, 0)) := by
        refine blk_below ?_ hb1 (by first | (simp; done) | (simp; omega))
        (repeat (first | (with_reducible exact heap_alloc_new _ _) | (rw [heap_drew1]) | (rw [heap_drewN1]) | (rw [Below.heap_setCell _ _ _ _ (by first | omega | (simp; done) | (simp; omega))]) | (rw [Below.heap_alloc _ _ _ (by first | omega | (simp; done) | (simp; omega))]) | (exact heap_alloc_at (by first | omega | (simp; done) | (simp; omega)))))
      (go_at_call 88; with_reducible refine (HS.out _).mono ?_; rintro e2 w2 ⟨rfl, hb2⟩; obtain ⟨hc2, hf2⟩ := bcell hb2; have hB2 : Below w.heap.size w w2 := (below_then (by first | (go_grown; done) | (repeat (first | (with_reducible assumption) | (with_reducible exact Below.refl _ _) | (with_reducible refine below_drewN' ?_ _) | (with_reducible refine Below.drew ?_) | ((with_reducible refine Below.alloc ?_ ?_ _); rotate_left; focus (first | (simp; done) | (simp; omega) | omega)) | ((with_reducible refine Below.setCell ?_ ?_ _); rotate_left; focus (first | (simp; done) | (simp; omega) | omega))))) (by first | omega | (simp; done) | (simp; omega)) hb2); have hz2a : w.heap.size < w2.heap.size := (by have := hb2.size; first | omega | (simp at this; omega)); have hz2b : w.heap.size + 1 < w2.heap.size := (by have := hb2.size; first | omega | (simp at this; omega)))
      have hh2 := blk_below hh1 hb2 hz1a
      have hr2 := blk_below hr1 hb2 hz1b
      have hck := HRL.out w2 hB2
      obtain ⟨y0, y1, y2, y3, y4, y5, y6, y7, -⟩ := blk8 hh2
      obtain ⟨z0, z1, z2, z3, z4, z5, zf⟩ := blk6 hr2
      have hp5 := hp4
      try simp only [Int.cast_ofNat_Int] at hp5
      clear hc1 hf1 hc2 hf2 hh1 hr1 hh2
      go_wp2_with fail
      obtain ⟨s0, s1, s2, s3, s4, s5, -⟩ := blk6 (res6 hr2 (.int .i64 p) (.int .i64 k) (.int .i64 g) (.int .i64 ((E : Int) - (P4 : Int))) (.int .i64 64) (.int .i64 (C : Int)))
      (try simp only [Exit.inBlock, Exit.then]); refine bodyPost_ret (by simp [results, Try.results48, go_sem, s0, s1, s2, s3, s4, s5]; try rfl) rfl ?_
      exact ⟨rfl, by (repeat (first | (with_reducible assumption) | (with_reducible exact Below.refl _ _) | (with_reducible refine below_drewN' ?_ _) | (with_reducible refine Below.drew ?_) | ((with_reducible refine Below.alloc ?_ ?_ _); rotate_left; focus (first | (simp; done) | (simp; omega) | omega)) | ((with_reducible refine Below.setCell ?_ ?_ _); rotate_left; focus (first | (simp; done) | (simp; omega) | omega))))⟩
  exact main (by rw [hK]; omega)

end Go.Proofs.Ytbgcbjfimjfbpaa
