/-
  Contracts of chapter 14: ReadFormat, the program and the reference.
-/
import Derived.Test.YtgokleeofcleiaaC14A
import Derived.Test.YtgokleeofcleiaaC14W
import Derived.Test.YtgokleeofcleiaaC14E
import Derived.Test.YtgokleeofcleiaaLFormatShare
import Derived.Deep.RegionHeld3
namespace Go.Proofs.Ytgokleeofcleiaa
set_option linter.unusedSimpArgs false
open Go.RowKit

def rfC (r c : Int) (xs : List Int) : Int := bif sqB r c xs then shC 5 15 1335 (atL r.toNat xs fmtA) (atL r.toNat xs (fmtB r)) else 1
def rfV (r c : Int) (xs : List Int) : Int := bif sqB r c xs then shV 5 15 1335 (atL r.toNat xs fmtA) (atL r.toNat xs (fmtB r)) else 0
theorem listB_at {N : Nat} {xs : List Int} {ps : List (Int × Int)} (hal : allIn (-1) 1 xs = true) (hl : xs.length = N * N) (hp : ps.length = 15) (hin : ∀ p ∈ ps, 0 ≤ p.1 ∧ 0 ≤ p.2 ∧ p.1 < N ∧ p.2 < N) : listB (atL N xs ps) 15 = true := by
  have h1 : (((atL N xs ps).length : Int) == 15) = true := by rw [atL_len, hp]; rfl
  have h2 : allR (atL N xs ps) = true := by
    unfold allR atL
    rw [List.all_eq_true]
    intro x hx
    obtain ⟨p, hp, rfl⟩ := List.mem_map.1 hx
    have h3 := allIn_nth hal (k := idxP N p) (by rw [hl]; exact (idxP_lt (hin p hp)).1)
    simp [inR]; omega
  unfold listB
  rw [h2, h1]; rfl
theorem sh_std {xs ys : List Int} (hx : listB xs 15 = true) (hy : listB ys 15 = true) : shC 5 15 1335 xs ys = 0 ∨ (shC 5 15 1335 xs ys = 7 ∧ shV 5 15 1335 xs ys = 0) := by
  have hc : fcodeB 5 15 1335 = true := by decide
  unfold shC shV pick2
  rw [hc, hx, hy]
  cases nOk 5 15 1335 xs <;> cases nOk 5 15 1335 ys <;> simp
set_option maxRecDepth 20000 in
set_option maxHeartbeats 4000000 in
theorem sReadFormat_any (r c : Int) (A : Option Addr) (n cp : Nat) (xs : List Int) (w : World) (B : Nat) (hr : RI w B A n xs) (hB : B ≤ w.heap.size) (hn : n ≤ 1000000000000000) :
    Calls Try.prog 34 #[.agg #[.int .i64 r, .int .i64 c, .slice A n cp]] w fun e w' => e = .returned (.tuple #[.int .i64 (rfV r c xs), .int .i64 (rfC r c xs)]) ∧ Below w.heap.size w w' := by
  have HL := Lib.hid hr.len
  have HR := Lib.hid (hr.more hB)
  have HC := Lib.hid (fun w' (hb : Below w.heap.size w w') => l14Square_any r c A n cp xs w' w.heap.size (HR.out.below hb) hb.size hn)
  clear hr
  unfold rfV rfC
  cases hg : sqB r c xs
  · rw [hg] at HC
    go_enter Try.func34, Try.ntmps34
    go_wp2_with (go_at_call 58; go_call (HC.out _ (by go_grown)) as e1 w1 ⟨rfl, hb1⟩; obtain ⟨hc1, hf1⟩ := bcell hb1; have hB1 : Below w.heap.size w w1 := (below_then (by first | (go_grown; done) | (repeat (first | (with_reducible assumption) | (with_reducible exact Below.refl _ _) | (with_reducible refine below_drewN' ?_ _) | (with_reducible refine Below.drew ?_) | ((with_reducible refine Below.alloc ?_ ?_ _); rotate_left; focus (first | (simp; done) | (simp; omega) | omega)) | ((with_reducible refine Below.setCell ?_ ?_ _); rotate_left; focus (first | (simp; done) | (simp; omega) | omega))))) (by first | omega | (simp; done) | (simp; omega)) hb1); have hz1a : w.heap.size < w1.heap.size := (by have := hb1.size; first | omega | (simp at this; omega)))
    go_returns
    exact ⟨by simp, by (repeat (first | (with_reducible assumption) | (with_reducible exact Below.refl _ _) | (with_reducible refine below_drewN' ?_ _) | (with_reducible refine Below.drew ?_) | ((with_reducible refine Below.alloc ?_ ?_ _); rotate_left; focus (first | (simp; done) | (simp; omega) | omega)) | ((with_reducible refine Below.setCell ?_ ?_ _); rotate_left; focus (first | (simp; done) | (simp; omega) | omega))))⟩
  · rw [hg] at HC
    obtain ⟨N, rfl, rfl, hN, hxl, hal⟩ := sqB_true hg
    have hN0 : 0 < N * N := Nat.mul_pos (by omega) (by omega)
    have hnN : n = N * N := by rw [← HL.out, hxl]
    subst hnN
    obtain ⟨b, o, rfl, -, -⟩ := HR.out.cells hN0
    have HN := Lib.hid hN
    have HF := Lib.hid (fun w => l14Format_any N w ⟨hN.1, hN.2.1⟩)
    have hle := Lib.hid (fmtB_len N)
    have hla := Lib.hid fmtA_len
    have hina := Lib.hid (fun (p : Int × Int) (hp : p ∈ fmtA) => fmt_in HN.out (p := p) (List.mem_append_left _ hp))
    have hinb := Lib.hid (fun (p : Int × Int) (hp : p ∈ fmtB N) => fmt_in HN.out (p := p) (List.mem_append_right _ hp))
    have hN2 := hN.2.1
    rw [Int.toNat_natCast]
    generalize fmtA = fa at HF hla hina ⊢
    generalize fmtB (N : Int) = fb at HF hle hinb ⊢
    have hl15 : (atL N xs fa).length = 15 := by rw [atL_len, hla.out]
    have hl15' : (atL N xs fb).length = 15 := by rw [atL_len, hle.out]
    have HLA := Lib.hid hl15
    have HLB := Lib.hid hl15'
    have HSH := fun (w : World) (A A' : Option Addr) (c c' : Nat) (w' : World) (hr : RI w w.heap.size A 15 (atL N xs fa)) (hr' : RI w w.heap.size A' 15 (atL N xs fb)) (hb : Below w.heap.size w w') => sFormatShare_any 5 15 1335 A A' 15 c 15 c' _ _ w' w.heap.size (hr.below hb) (hr'.below hb) hb.size (by decide) (by decide) (by decide)
    generalize shV 5 15 1335 (atL N xs fa) (atL N xs fb) = V at HSH ⊢
    generalize shC 5 15 1335 (atL N xs fa) (atL N xs fb) = C at HSH ⊢
    clear hg hal hxl hN hl15 hl15'
    simp only [cond_true]
    go_enter Try.func34, Try.ntmps34
    go_wp2_with fail
    (go_at_call 58; go_call (HC.out _ (by go_grown)) as e1 w1 ⟨rfl, hb1⟩; obtain ⟨hc1, hf1⟩ := bcell hb1; have hB1 : Below w.heap.size w w1 := (below_then (by first | (go_grown; done) | (repeat (first | (with_reducible assumption) | (with_reducible exact Below.refl _ _) | (with_reducible refine below_drewN' ?_ _) | (with_reducible refine Below.drew ?_) | ((with_reducible refine Below.alloc ?_ ?_ _); rotate_left; focus (first | (simp; done) | (simp; omega) | omega)) | ((with_reducible refine Below.setCell ?_ ?_ _); rotate_left; focus (first | (simp; done) | (simp; omega) | omega))))) (by first | omega | (simp; done) | (simp; omega)) hb1); have hz1a : w.heap.size < w1.heap.size := (by have := hb1.size; first | omega | (simp at this; omega)))
    have HX1 := Lib.hid (blk_below (heap_alloc_new w (.cells #[.int .i64 (N : Int), .int .i64 (N : Int), .slice (some ⟨b, o, none⟩) (N * N) cp] 28)) hb1 (by simp))
    obtain ⟨y0, y1, y2, -⟩ := blk3 HX1.out
    go_wp2_with fail
    (go_at_call 71; with_reducible refine (HF.out _).mono ?_; rintro e2 w2 ⟨v1, v2, rfl, hT, hb2⟩; obtain ⟨hc2, hf2⟩ := bcell hb2; have hB2 : Below w.heap.size w w2 := (below_then (by first | (go_grown; done) | (repeat (first | (with_reducible assumption) | (with_reducible exact Below.refl _ _) | (with_reducible refine below_drewN' ?_ _) | (with_reducible refine Below.drew ?_) | ((with_reducible refine Below.alloc ?_ ?_ _); rotate_left; focus (first | (simp; done) | (simp; omega) | omega)) | ((with_reducible refine Below.setCell ?_ ?_ _); rotate_left; focus (first | (simp; done) | (simp; omega) | omega))))) (by first | omega | (simp; done) | (simp; omega)) hb2))
    obtain ⟨g1, c1, rfl, hgB1, hgw1, -⟩ := hT.1.cells (by rw [hla.out]; decide)
    obtain ⟨g2, c2, rfl, hgB2, hgw2, -⟩ := hT.2.1.cells (by rw [hle.out]; decide)
    rw [hla.out, hle.out] at hT ⊢
    have HP1 := Lib.hid (RP.of hT.1 hla.out (by decide))
    have HP2 := Lib.hid (RP.of hT.2.1 hle.out (by decide))
    have HX2 := Lib.hid (blk_below HX1.out hb2 (by omega))
    have HR2 := Lib.hid (HR.out.below hB2)
    have hs2 := hb2.size
    have hws : w.heap.size < w2.heap.size := by omega
    have hBk := hB2
    clear y0 y1 y2 hc2 hf2 hc1 hf1 hT hb1 hB1 hb2 hB2
    have HC1 := Lib.hid (fun w' (hb : Below w2.heap.size w2 w') => l14Cells_any N b o cp g1 c1 15 xs fa w' w2.heap.size ((HR2.out.below (hb.mono (by omega))).more (by omega)) ((HP1.out).below hb (Nat.le_refl _)) hb.size hla.out (by decide) hina.out hN2)
    have HC2 := Lib.hid (fun w' (hb : Below w2.heap.size w2 w') => l14Cells_any N b o cp g2 c2 15 xs fb w' w2.heap.size ((HR2.out.below (hb.mono (by omega))).more (by omega)) ((HP2.out).below hb (Nat.le_refl _)) hb.size hle.out (by decide) hinb.out hN2)
    obtain ⟨y0, y1, y2, -⟩ := blk3 HX2.out
    go_wp2_with fail
    go_region_held3 (fun w' => w'.cell? ⟨w.heap.size, 0, none⟩ = some (.int .i64 (N : Int)) ∧ w'.cell? ⟨w.heap.size, 1, none⟩ = some (.int .i64 (N : Int)) ∧ w'.cell? ⟨w.heap.size, 2, none⟩ = some (.slice (some ⟨b, o, none⟩) (N * N) cp))
      (first | (exact ⟨q0, q1, q2⟩) | (exact ⟨y0, y1, y2⟩) | go_keep)
      (first
        | (go_at_call 73; with_reducible refine (sStd_any _).mono ?_; rintro e3 w3 ⟨rfl, hb3⟩; obtain ⟨hc3, hf3⟩ := bcell hb3; have hD3 : Below w2.heap.size w2 w3 := below_then (by (repeat (first | (with_reducible assumption) | (with_reducible exact Below.refl _ _) | (with_reducible refine below_drewN' ?_ _) | (with_reducible refine Below.drew ?_) | ((with_reducible refine Below.alloc ?_ ?_ _); rotate_left; focus (first | (simp; done) | (simp; omega) | omega)) | ((with_reducible refine Below.setCell ?_ ?_ _); rotate_left; focus (first | (simp; done) | (simp; omega) | omega))))) (by first | omega | (simp; done) | (simp; omega)) hb3; have hsz3 := hD3.size; obtain ⟨q0, q1, q2, -⟩ := blk3 ((hD3.block w.heap.size hws).trans HX2.out); clear hc3 hf3)
        | (go_at_call 74; with_reducible refine (HC1.out _ (by (repeat (first | (with_reducible assumption) | (with_reducible exact Below.refl _ _) | (with_reducible refine below_drewN' ?_ _) | (with_reducible refine Below.drew ?_) | ((with_reducible refine Below.alloc ?_ ?_ _); rotate_left; focus (first | (simp; done) | (simp; omega) | omega)) | ((with_reducible refine Below.setCell ?_ ?_ _); rotate_left; focus (first | (simp; done) | (simp; omega) | omega)))))).mono ?_; rintro e4 w4 ⟨v4, rfl, ho4, hb4⟩; obtain ⟨hc4, hf4⟩ := bcell hb4; have hD4 : Below w2.heap.size w2 w4 := below_then (by (repeat (first | (with_reducible assumption) | (with_reducible exact Below.refl _ _) | (with_reducible refine below_drewN' ?_ _) | (with_reducible refine Below.drew ?_) | ((with_reducible refine Below.alloc ?_ ?_ _); rotate_left; focus (first | (simp; done) | (simp; omega) | omega)) | ((with_reducible refine Below.setCell ?_ ?_ _); rotate_left; focus (first | (simp; done) | (simp; omega) | omega))))) (by first | omega | (simp; done) | (simp; omega)) hb4; have hsz4 := hD4.size; obtain ⟨q0, q1, q2, -⟩ := blk3 ((hD4.block w.heap.size hws).trans HX2.out); clear hc4 hf4; obtain ⟨A4, c4, rfl, hr4⟩ := ho4.shape; rw [HLA.out] at hr4 ⊢; have HR4 := Lib.hid hr4; clear ho4 hr4)
        | (go_at_call 74; with_reducible refine (HC2.out _ (by (repeat (first | (with_reducible assumption) | (with_reducible exact Below.refl _ _) | (with_reducible refine below_drewN' ?_ _) | (with_reducible refine Below.drew ?_) | ((with_reducible refine Below.alloc ?_ ?_ _); rotate_left; focus (first | (simp; done) | (simp; omega) | omega)) | ((with_reducible refine Below.setCell ?_ ?_ _); rotate_left; focus (first | (simp; done) | (simp; omega) | omega)))))).mono ?_; rintro e5 w5 ⟨v5, rfl, ho5, hb5⟩; obtain ⟨hc5, hf5⟩ := bcell hb5; have hD5 : Below w2.heap.size w2 w5 := below_then (by (repeat (first | (with_reducible assumption) | (with_reducible exact Below.refl _ _) | (with_reducible refine below_drewN' ?_ _) | (with_reducible refine Below.drew ?_) | ((with_reducible refine Below.alloc ?_ ?_ _); rotate_left; focus (first | (simp; done) | (simp; omega) | omega)) | ((with_reducible refine Below.setCell ?_ ?_ _); rotate_left; focus (first | (simp; done) | (simp; omega) | omega))))) (by first | omega | (simp; done) | (simp; omega)) hb5; have hsz5 := hD5.size; obtain ⟨q0, q1, q2, -⟩ := blk3 ((hD5.block w.heap.size hws).trans HX2.out); clear hc5 hf5; obtain ⟨A5, c5, rfl, hr5⟩ := ho5.shape; rw [HLB.out] at hr5 ⊢; have hE5 : Below w4.heap.size w4 w5 := below_then (by (repeat (first | (with_reducible assumption) | (with_reducible exact Below.refl _ _) | (with_reducible refine below_drewN' ?_ _) | (with_reducible refine Below.drew ?_) | ((with_reducible refine Below.alloc ?_ ?_ _); rotate_left; focus (first | (simp; done) | (simp; omega) | omega)) | ((with_reducible refine Below.setCell ?_ ?_ _); rotate_left; focus (first | (simp; done) | (simp; omega) | omega))))) (by first | omega | (simp; done) | (simp; omega)) hb5; have HR5 := Lib.hid hr5; have HR45 := Lib.hid ((HR4.out.below hE5).more hE5.size); clear ho5 hr5)
        | (go_at_call 72; with_reducible refine (HSH _ _ _ _ _ _ HR45.out HR5.out (by (repeat (first | (with_reducible assumption) | (with_reducible exact Below.refl _ _) | (with_reducible refine below_drewN' ?_ _) | (with_reducible refine Below.drew ?_) | ((with_reducible refine Below.alloc ?_ ?_ _); rotate_left; focus (first | (simp; done) | (simp; omega) | omega)) | ((with_reducible refine Below.setCell ?_ ?_ _); rotate_left; focus (first | (simp; done) | (simp; omega) | omega)))))).mono ?_; rintro e6 w6 ⟨rfl, hb6⟩; obtain ⟨hc6, hf6⟩ := bcell hb6; have hD6 : Below w2.heap.size w2 w6 := below_then (by (repeat (first | (with_reducible assumption) | (with_reducible exact Below.refl _ _) | (with_reducible refine below_drewN' ?_ _) | (with_reducible refine Below.drew ?_) | ((with_reducible refine Below.alloc ?_ ?_ _); rotate_left; focus (first | (simp; done) | (simp; omega) | omega)) | ((with_reducible refine Below.setCell ?_ ?_ _); rotate_left; focus (first | (simp; done) | (simp; omega) | omega))))) (by first | omega | (simp; done) | (simp; omega)) hb6; have hsz6 := hD6.size; obtain ⟨q0, q1, q2, -⟩ := blk3 ((hD6.block w.heap.size hws).trans HX2.out); clear hc6 hf6))
    go_wp2_with fail
    go_returns
    exact ⟨rfl, hBk.trans (hD6.mono (by omega))⟩
set_option maxRecDepth 20000 in
set_option maxHeartbeats 4000000 in
theorem ReadFormat_any (r c : Int) (A : Option Addr) (n cp : Nat) (xs : List Int) (w : World) (B : Nat) (hr : RI w B A n xs) (hB : B ≤ w.heap.size) (hn : n ≤ 1000000000000000) :
    Calls Try.prog 35 #[.agg #[.int .i64 r, .int .i64 c, .slice A n cp]] w fun e w' => e = .returned (.tuple #[.int .i64 (rfV r c xs), .int .i64 (rfC r c xs)]) ∧ Below w.heap.size w w' := by
  have HL := Lib.hid hr.len
  have HR := Lib.hid (hr.more hB)
  have HC := Lib.hid (fun w' (hb : Below w.heap.size w w') => isMatrix_any r c A n cp xs w' w.heap.size (HR.out.below hb) hb.size hn)
  clear hr
  unfold rfV rfC
  cases hg : sqB r c xs
  · rw [hg] at HC
    go_enter Try.func35, Try.ntmps35
    go_wp2_with (go_at_call 59; go_call (HC.out _ (by go_grown)) as e1 w1 ⟨rfl, hb1⟩; obtain ⟨hc1, hf1⟩ := bcell hb1; have hB1 : Below w.heap.size w w1 := (below_then (by first | (go_grown; done) | (repeat (first | (with_reducible assumption) | (with_reducible exact Below.refl _ _) | (with_reducible refine below_drewN' ?_ _) | (with_reducible refine Below.drew ?_) | ((with_reducible refine Below.alloc ?_ ?_ _); rotate_left; focus (first | (simp; done) | (simp; omega) | omega)) | ((with_reducible refine Below.setCell ?_ ?_ _); rotate_left; focus (first | (simp; done) | (simp; omega) | omega))))) (by first | omega | (simp; done) | (simp; omega)) hb1); have hz1a : w.heap.size < w1.heap.size := (by have := hb1.size; first | omega | (simp at this; omega)))
    go_returns
    exact ⟨by simp, by (repeat (first | (with_reducible assumption) | (with_reducible exact Below.refl _ _) | (with_reducible refine below_drewN' ?_ _) | (with_reducible refine Below.drew ?_) | ((with_reducible refine Below.alloc ?_ ?_ _); rotate_left; focus (first | (simp; done) | (simp; omega) | omega)) | ((with_reducible refine Below.setCell ?_ ?_ _); rotate_left; focus (first | (simp; done) | (simp; omega) | omega))))⟩
  · rw [hg] at HC
    obtain ⟨N, rfl, rfl, hN, hxl, hal⟩ := sqB_true hg
    have hN0 : 0 < N * N := Nat.mul_pos (by omega) (by omega)
    have hnN : n = N * N := by rw [← HL.out, hxl]
    subst hnN
    obtain ⟨b, o, rfl, -, -⟩ := HR.out.cells hN0
    have HN := Lib.hid hN
    have HF := Lib.hid (fun w => formats_any N w ⟨hN.1, hN.2.1⟩)
    have hle := Lib.hid (fmtB_len N)
    have hla := Lib.hid fmtA_len
    have hina := Lib.hid (fun (p : Int × Int) (hp : p ∈ fmtA) => fmt_in HN.out (p := p) (List.mem_append_left _ hp))
    have hinb := Lib.hid (fun (p : Int × Int) (hp : p ∈ fmtB N) => fmt_in HN.out (p := p) (List.mem_append_right _ hp))
    have hN2 := hN.2.1
    rw [Int.toNat_natCast]
    generalize fmtA = fa at HF hla hina ⊢
    generalize fmtB (N : Int) = fb at HF hle hinb ⊢
    have hl15 : (atL N xs fa).length = 15 := by rw [atL_len, hla.out]
    have hl15' : (atL N xs fb).length = 15 := by rw [atL_len, hle.out]
    have HLA := Lib.hid hl15
    have HLB := Lib.hid hl15'
    have hSH := sh_std (listB_at hal hxl hla.out hina.out) (listB_at hal hxl hle.out hinb.out)
    have HSH := fun (w : World) (A A' : Option Addr) (c c' : Nat) (w' : World) (hr : RI w w.heap.size A 15 (atL N xs fa)) (hr' : RI w w.heap.size A' 15 (atL N xs fb)) (hb : Below w.heap.size w w') => FormatShare_any 5 15 1335 A A' 15 c 15 c' _ _ w' w.heap.size (hr.below hb) (hr'.below hb) hb.size (by decide) (by decide) (by decide)
    generalize shV 5 15 1335 (atL N xs fa) (atL N xs fb) = V at HSH hSH ⊢
    generalize shC 5 15 1335 (atL N xs fa) (atL N xs fb) = C at HSH hSH ⊢
    have HSHd := Lib.hid hSH
    clear hSH
    clear hg hal hxl hN hl15 hl15'
    simp only [cond_true]
    go_enter Try.func35, Try.ntmps35
    go_wp2_with fail
    (go_at_call 59; go_call (HC.out _ (by go_grown)) as e1 w1 ⟨rfl, hb1⟩; obtain ⟨hc1, hf1⟩ := bcell hb1; have hB1 : Below w.heap.size w w1 := (below_then (by first | (go_grown; done) | (repeat (first | (with_reducible assumption) | (with_reducible exact Below.refl _ _) | (with_reducible refine below_drewN' ?_ _) | (with_reducible refine Below.drew ?_) | ((with_reducible refine Below.alloc ?_ ?_ _); rotate_left; focus (first | (simp; done) | (simp; omega) | omega)) | ((with_reducible refine Below.setCell ?_ ?_ _); rotate_left; focus (first | (simp; done) | (simp; omega) | omega))))) (by first | omega | (simp; done) | (simp; omega)) hb1); have hz1a : w.heap.size < w1.heap.size := (by have := hb1.size; first | omega | (simp at this; omega)))
    have HX1 := Lib.hid (blk_below (heap_alloc_new w (.cells #[.int .i64 (N : Int), .int .i64 (N : Int), .slice (some ⟨b, o, none⟩) (N * N) cp] 28)) hb1 (by simp))
    obtain ⟨y0, y1, y2, -⟩ := blk3 HX1.out
    go_wp2_with fail
    (go_at_call 68; with_reducible refine (HF.out _).mono ?_; rintro e2 w2 ⟨v1, v2, rfl, hT, hb2⟩; obtain ⟨hc2, hf2⟩ := bcell hb2; have hB2 : Below w.heap.size w w2 := (below_then (by first | (go_grown; done) | (repeat (first | (with_reducible assumption) | (with_reducible exact Below.refl _ _) | (with_reducible refine below_drewN' ?_ _) | (with_reducible refine Below.drew ?_) | ((with_reducible refine Below.alloc ?_ ?_ _); rotate_left; focus (first | (simp; done) | (simp; omega) | omega)) | ((with_reducible refine Below.setCell ?_ ?_ _); rotate_left; focus (first | (simp; done) | (simp; omega) | omega))))) (by first | omega | (simp; done) | (simp; omega)) hb2))
    obtain ⟨g1, c1, rfl, hgB1, hgw1, -⟩ := hT.1.cells (by rw [hla.out]; decide)
    obtain ⟨g2, c2, rfl, hgB2, hgw2, -⟩ := hT.2.1.cells (by rw [hle.out]; decide)
    rw [hla.out, hle.out] at hT ⊢
    have HP1 := Lib.hid (RP.of hT.1 hla.out (by decide))
    have HP2 := Lib.hid (RP.of hT.2.1 hle.out (by decide))
    have HX2 := Lib.hid (blk_below HX1.out hb2 (by omega))
    have HR2 := Lib.hid (HR.out.below hB2)
    have hs2 := hb2.size
    have hws : w.heap.size < w2.heap.size := by omega
    have hBk := hB2
    clear y0 y1 y2 hc2 hf2 hc1 hf1 hT hb1 hB1 hb2 hB2
    have HC1 := Lib.hid (fun w' (hb : Below w2.heap.size w2 w') => cellsAt_any N b o cp g1 c1 15 xs fa w' w2.heap.size ((HR2.out.below (hb.mono (by omega))).more (by omega)) ((HP1.out).below hb (Nat.le_refl _)) hb.size hla.out (by decide) hina.out hN2)
    have HC2 := Lib.hid (fun w' (hb : Below w2.heap.size w2 w') => cellsAt_any N b o cp g2 c2 15 xs fb w' w2.heap.size ((HR2.out.below (hb.mono (by omega))).more (by omega)) ((HP2.out).below hb (Nat.le_refl _)) hb.size hle.out (by decide) hinb.out hN2)
    obtain ⟨y0, y1, y2, -⟩ := blk3 HX2.out
    go_wp2_with fail
    go_region_held3 (fun w' => w'.cell? ⟨w.heap.size, 0, none⟩ = some (.int .i64 (N : Int)) ∧ w'.cell? ⟨w.heap.size, 1, none⟩ = some (.int .i64 (N : Int)) ∧ w'.cell? ⟨w.heap.size, 2, none⟩ = some (.slice (some ⟨b, o, none⟩) (N * N) cp))
      (first | (exact ⟨q0, q1, q2⟩) | (exact ⟨y0, y1, y2⟩) | go_keep)
      (first
        | (go_at_call 76; with_reducible refine (iStd_any _).mono ?_; rintro e3 w3 ⟨rfl, hb3⟩; obtain ⟨hc3, hf3⟩ := bcell hb3; have hD3 : Below w2.heap.size w2 w3 := below_then (by (repeat (first | (with_reducible assumption) | (with_reducible exact Below.refl _ _) | (with_reducible refine below_drewN' ?_ _) | (with_reducible refine Below.drew ?_) | ((with_reducible refine Below.alloc ?_ ?_ _); rotate_left; focus (first | (simp; done) | (simp; omega) | omega)) | ((with_reducible refine Below.setCell ?_ ?_ _); rotate_left; focus (first | (simp; done) | (simp; omega) | omega))))) (by first | omega | (simp; done) | (simp; omega)) hb3; have hsz3 := hD3.size; obtain ⟨q0, q1, q2, -⟩ := blk3 ((hD3.block w.heap.size hws).trans HX2.out); clear hc3 hf3)
        | (go_at_call 77; with_reducible refine (HC1.out _ (by (repeat (first | (with_reducible assumption) | (with_reducible exact Below.refl _ _) | (with_reducible refine below_drewN' ?_ _) | (with_reducible refine Below.drew ?_) | ((with_reducible refine Below.alloc ?_ ?_ _); rotate_left; focus (first | (simp; done) | (simp; omega) | omega)) | ((with_reducible refine Below.setCell ?_ ?_ _); rotate_left; focus (first | (simp; done) | (simp; omega) | omega)))))).mono ?_; rintro e4 w4 ⟨v4, rfl, ho4, hb4⟩; obtain ⟨hc4, hf4⟩ := bcell hb4; have hD4 : Below w2.heap.size w2 w4 := below_then (by (repeat (first | (with_reducible assumption) | (with_reducible exact Below.refl _ _) | (with_reducible refine below_drewN' ?_ _) | (with_reducible refine Below.drew ?_) | ((with_reducible refine Below.alloc ?_ ?_ _); rotate_left; focus (first | (simp; done) | (simp; omega) | omega)) | ((with_reducible refine Below.setCell ?_ ?_ _); rotate_left; focus (first | (simp; done) | (simp; omega) | omega))))) (by first | omega | (simp; done) | (simp; omega)) hb4; have hsz4 := hD4.size; obtain ⟨q0, q1, q2, -⟩ := blk3 ((hD4.block w.heap.size hws).trans HX2.out); clear hc4 hf4; obtain ⟨A4, c4, rfl, hr4⟩ := ho4.shape; rw [HLA.out] at hr4 ⊢; have HR4 := Lib.hid hr4; clear ho4 hr4)
        | (go_at_call 77; with_reducible refine (HC2.out _ (by (repeat (first | (with_reducible assumption) | (with_reducible exact Below.refl _ _) | (with_reducible refine below_drewN' ?_ _) | (with_reducible refine Below.drew ?_) | ((with_reducible refine Below.alloc ?_ ?_ _); rotate_left; focus (first | (simp; done) | (simp; omega) | omega)) | ((with_reducible refine Below.setCell ?_ ?_ _); rotate_left; focus (first | (simp; done) | (simp; omega) | omega)))))).mono ?_; rintro e5 w5 ⟨v5, rfl, ho5, hb5⟩; obtain ⟨hc5, hf5⟩ := bcell hb5; have hD5 : Below w2.heap.size w2 w5 := below_then (by (repeat (first | (with_reducible assumption) | (with_reducible exact Below.refl _ _) | (with_reducible refine below_drewN' ?_ _) | (with_reducible refine Below.drew ?_) | ((with_reducible refine Below.alloc ?_ ?_ _); rotate_left; focus (first | (simp; done) | (simp; omega) | omega)) | ((with_reducible refine Below.setCell ?_ ?_ _); rotate_left; focus (first | (simp; done) | (simp; omega) | omega))))) (by first | omega | (simp; done) | (simp; omega)) hb5; have hsz5 := hD5.size; obtain ⟨q0, q1, q2, -⟩ := blk3 ((hD5.block w.heap.size hws).trans HX2.out); clear hc5 hf5; obtain ⟨A5, c5, rfl, hr5⟩ := ho5.shape; rw [HLB.out] at hr5 ⊢; have hE5 : Below w4.heap.size w4 w5 := below_then (by (repeat (first | (with_reducible assumption) | (with_reducible exact Below.refl _ _) | (with_reducible refine below_drewN' ?_ _) | (with_reducible refine Below.drew ?_) | ((with_reducible refine Below.alloc ?_ ?_ _); rotate_left; focus (first | (simp; done) | (simp; omega) | omega)) | ((with_reducible refine Below.setCell ?_ ?_ _); rotate_left; focus (first | (simp; done) | (simp; omega) | omega))))) (by first | omega | (simp; done) | (simp; omega)) hb5; have HR5 := Lib.hid hr5; have HR45 := Lib.hid ((HR4.out.below hE5).more hE5.size); clear ho5 hr5)
        | (go_at_call 75; with_reducible refine (HSH _ _ _ _ _ _ HR45.out HR5.out (by (repeat (first | (with_reducible assumption) | (with_reducible exact Below.refl _ _) | (with_reducible refine below_drewN' ?_ _) | (with_reducible refine Below.drew ?_) | ((with_reducible refine Below.alloc ?_ ?_ _); rotate_left; focus (first | (simp; done) | (simp; omega) | omega)) | ((with_reducible refine Below.setCell ?_ ?_ _); rotate_left; focus (first | (simp; done) | (simp; omega) | omega)))))).mono ?_; rintro e6 w6 ⟨rfl, hb6⟩; obtain ⟨hc6, hf6⟩ := bcell hb6; have hD6 : Below w2.heap.size w2 w6 := below_then (by (repeat (first | (with_reducible assumption) | (with_reducible exact Below.refl _ _) | (with_reducible refine below_drewN' ?_ _) | (with_reducible refine Below.drew ?_) | ((with_reducible refine Below.alloc ?_ ?_ _); rotate_left; focus (first | (simp; done) | (simp; omega) | omega)) | ((with_reducible refine Below.setCell ?_ ?_ _); rotate_left; focus (first | (simp; done) | (simp; omega) | omega))))) (by first | omega | (simp; done) | (simp; omega)) hb6; have hsz6 := hD6.size; obtain ⟨q0, q1, q2, -⟩ := blk3 ((hD6.block w.heap.size hws).trans HX2.out); clear hc6 hf6))
    rcases HSHd.out with rfl | ⟨rfl, rfl⟩
    · go_wp2_with fail
      go_returns
      exact ⟨rfl, hBk.trans (hD6.mono (by omega))⟩
    · go_wp2_with fail
      go_returns
      exact ⟨rfl, hBk.trans (hD6.mono (by omega))⟩
end Go.Proofs.Ytgokleeofcleiaa
