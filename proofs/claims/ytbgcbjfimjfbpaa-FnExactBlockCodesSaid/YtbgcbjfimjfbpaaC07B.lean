/-
  Contracts of chapter 7: the codes of all blocks.
-/
import Derived.Test.YtbgcbjfimjfbpaaFlt
namespace Go.Proofs.Ytbgcbjfimjfbpaa
set_option linter.unusedSimpArgs false
open Go.RowKit

/-- The numbers of the codes of the first n blocks. -/
def bcL (p k g : Int) (D H C : Nat) : Nat → List Int
  | 0 => []
  | n + 1 => bcL p k g D H C n ++ [p, k, g, (shN D C n : Nat) + (H : Int), H]
theorem bcL_len (p k g : Int) (D H C : Nat) (n : Nat) : (bcL p k g D H C n).length = n * 5 := by
  induction n with
  | zero => rfl
  | succ n ih => simp only [bcL, List.length_append, ih, List.length_cons, List.length_nil]; omega
theorem rep5 (m : Nat) : List.replicate ((m + 1) * 5) (0 : Int) = 0 :: 0 :: 0 :: 0 :: 0 :: List.replicate (m * 5) 0 := by
  rw [show (m + 1) * 5 = m * 5 + 1 + 1 + 1 + 1 + 1 by omega]; rfl
/-- What BlockCodes returns: how many codes, their numbers, its code. -/
def bcN (ok : Bool) (C : Nat) : Nat := bif ok then C else 0
def bcF (ok : Bool) (fs : List Int) : List Int := bif ok then fs else []
def bcC (ok : Bool) : Int := bif ok then 0 else 1
theorem bcN_no (C : Nat) : bcN false C = 0 := rfl
theorem bcF_no (fs : List Int) : bcF false fs = [] := rfl
theorem bcC_no : bcC false = 1 := rfl
theorem bcN_yes (C : Nat) : bcN true C = C := rfl
theorem bcF_yes (fs : List Int) : bcF true fs = fs := rfl
theorem bcC_yes : bcC true = 0 := rfl
set_option maxRecDepth 50000 in
set_option maxHeartbeats 4000000 in
theorem BlockCodes_any (p k g data chk cnt : Int) (w : World) :
    Calls Try.prog 28 #[.agg #[.int .i64 p, .int .i64 k, .int .i64 g, .int .i64 data, .int .i64 chk, .int .i64 cnt]] w fun e w' => ∃ v, e = .returned (.tuple #[v, .int .i64 (bcC (layB p k g data chk cnt))]) ∧ OwnF w' w.heap.size v (bcN (layB p k g data chk cnt) cnt.toNat) (bcF (layB p k g data chk cnt) (bcL p k g data.toNat chk.toNat cnt.toNat cnt.toNat)) ∧ Below w.heap.size w w' := by
  have HL := Lib.hid (fun w => IsLayout_any p k g data chk cnt w)
  cases hl : layB p k g data chk cnt
  · rw [hl] at HL
    rw [bcN_no, bcF_no, bcC_no]
    clear hl
    go_enter Try.func28, Try.ntmps28
    go_wp2_with (go_at_call 25; with_reducible refine (HL.out _).mono ?_; rintro e1 w1 ⟨rfl, hb1⟩; obtain ⟨hc1, hf1⟩ := bcell hb1; have hB1 : Below w.heap.size w w1 := (below_then (by first | (go_grown; done) | (repeat (first | (with_reducible assumption) | (with_reducible exact Below.refl _ _) | (with_reducible refine below_drewN' ?_ _) | (with_reducible refine Below.drew ?_) | ((with_reducible refine Below.alloc ?_ ?_ _); rotate_left; focus (first | (simp; done) | (simp; omega) | omega)) | ((with_reducible refine Below.setCell ?_ ?_ _); rotate_left; focus (first | (simp; done) | (simp; omega) | omega))))) (by first | omega | (simp; done) | (simp; omega)) hb1); have hz1a : w.heap.size < w1.heap.size := (by have := hb1.size; first | omega | (simp at this; omega)))
    go_returns
    exact ⟨.slice none 0 0, rfl, OwnF.nil, by (repeat (first | (with_reducible assumption) | (with_reducible exact Below.refl _ _) | (with_reducible refine below_drewN' ?_ _) | (with_reducible refine Below.drew ?_) | ((with_reducible refine Below.alloc ?_ ?_ _); rotate_left; focus (first | (simp; done) | (simp; omega) | omega)) | ((with_reducible refine Below.setCell ?_ ?_ _); rotate_left; focus (first | (simp; done) | (simp; omega) | omega))))⟩
  · rw [hl] at HL
    obtain ⟨D, C, H, rfl, rfl, rfl, hC1, hC2, hCD, hD, hH1, hH2, hDH, -⟩ := layB_true hl
    rw [bcN_yes, bcF_yes, bcC_yes]
    simp only [Int.toNat_natCast]
    have HB := Lib.hid (fun (b : Nat) (hb : b ≤ 16) (w : World) => lcode_any p k g D H C b w hC1 hC2 hD hH2 hb)
    obtain ⟨i0, hi⟩ := info_own' info_codes
    have HI := Lib.hid (And.intro i0.bytes.le_refl hi)
    clear hl hi
    go_enter Try.func28, Try.ntmps28
    go_wp2_with first | ((go_at_call 25; with_reducible refine (HL.out _).mono ?_; rintro e1 w1 ⟨rfl, hb1⟩; obtain ⟨hc1, hf1⟩ := bcell hb1; have hB1 : Below w.heap.size w w1 := (below_then (by first | (go_grown; done) | (repeat (first | (with_reducible assumption) | (with_reducible exact Below.refl _ _) | (with_reducible refine below_drewN' ?_ _) | (with_reducible refine Below.drew ?_) | ((with_reducible refine Below.alloc ?_ ?_ _); rotate_left; focus (first | (simp; done) | (simp; omega) | omega)) | ((with_reducible refine Below.setCell ?_ ?_ _); rotate_left; focus (first | (simp; done) | (simp; omega) | omega))))) (by first | omega | (simp; done) | (simp; omega)) hb1); have hz1a : w.heap.size < w1.heap.size := (by have := hb1.size; first | omega | (simp at this; omega))); have hh1 := blk_below (heap_alloc_new w (.cells #[.int .i64 p, .int .i64 k, .int .i64 g, .int .i64 D, .int .i64 H, .int .i64 C] 30)) hb1 (by simp); obtain ⟨y0, y1, y2, y3, y4, y5, -⟩ := blk6 hh1; clear hc1 hf1) | (at_make; refine wpList_make_full w1 rfl _ _ 51 rfl w1.heap.size 95 i0 (.agg #[.int .i64 0, .int .i64 0, .int .i64 0, .int .i64 0, .int .i64 0]) 5 Try.underlying51 HI.out.2.1 HI.out.2.2.1 HI.out.2.2.2.1 .i64 .i64 C C C (by rfl) (by rfl) rfl rfl (by rw [HI.out.2.2.2.2]; omega) (by unfold maxLen; omega) (Nat.le_refl _) ?_; intro w2 hown2 hgrow2)
    have HO := Lib.hid (OwnF.made hown2)
    have hs2 := hgrow2.size
    have hg2 : w2.heap[w1.heap.size]? ≠ none := by
      obtain ⟨g', c', e', -, hlt, -⟩ := (OwnF.made hown2).row (by omega)
      simp only [Value.slice.injEq, Option.some.injEq, Addr.mk.injEq, and_true] at e'
      obtain ⟨rfl, -⟩ := e'
      intro h; rw [Array.getElem?_eq_none_iff] at h; omega
    have hlt2 : w1.heap.size < w2.heap.size := by
      rcases Nat.lt_or_ge w1.heap.size w2.heap.size with h | h
      · exact h
      · exact absurd (Array.getElem?_eq_none_iff.2 h) hg2
    have HB2 := Lib.hid (hB1.grown hgrow2 (by omega) (fun k hk => by cases hk))
    have HH2 := Lib.hid ((hgrow2.block w.heap.size hz1a (by simp)).trans hh1)
    clear hown2 hgrow2 y0 y1 y2 y3 y4 y5 hg2 hh1 hb1 hB1
    go_wp2_with fail
    go_loopw [14] (fun i wr => ∃ b : Nat, b ≤ C ∧ i = .int .i64 b ∧ Hid (OwnF wr w1.heap.size (.slice (some ⟨w1.heap.size, 0, none⟩) C C) C (bcL p k g D H C b ++ List.replicate ((C - b) * 5) 0)) ∧ Hid (wr.heap[w.heap.size]? = some (.cells #[.int .i64 p, .int .i64 k, .int .i64 g, .int .i64 D, .int .i64 H, .int .i64 C] 30 (0, 0))) ∧ Hid (Below w.heap.size w wr ∧ w1.heap.size < wr.heap.size))
      (fun i _ => C - (intOf i).toNat)
    case atStart => exact ⟨0, Nat.zero_le _, rfl, Lib.hid (by simpa [bcL] using HO.out), HH2, Lib.hid ⟨HB2.out, hlt2⟩⟩
    case round =>
      rename World => wo
      obtain ⟨b, hb, rfl, hown, hh, hbl⟩ := hrel
      obtain ⟨c0, c1, c2, c3, c4, c5, -⟩ := blk6 hh.out
      have hz := lt_of_block hh.out
      have hbw := hbl.out.1
      have hzw := hbl.out.2
      by_cases hlt : b < C
      · have HBb := Lib.hid (HB.out b (by omega))
        have hrep : bcL p k g D H C b ++ List.replicate ((C - b) * 5) 0 = bcL p k g D H C b ++ 0 :: 0 :: 0 :: 0 :: 0 :: List.replicate ((C - (b + 1)) * 5) 0 := by rw [show C - b = C - (b + 1) + 1 by omega, rep5]
        have HREP := Lib.hid hrep
        clear hrep
        go_wp2_with fail
        (go_at_call 74; with_reducible refine (HBb.out _).mono ?_; rintro e3 w3 ⟨rfl, hb3⟩; obtain ⟨hc3, hf3⟩ := bcell hb3; have hB3 : Below w.heap.size w w3 := (below_then (by first | (go_grown; done) | (repeat (first | (with_reducible assumption) | (with_reducible exact Below.refl _ _) | (with_reducible refine below_drewN' ?_ _) | (with_reducible refine Below.drew ?_) | ((with_reducible refine Below.alloc ?_ ?_ _); rotate_left; focus (first | (simp; done) | (simp; omega) | omega)) | ((with_reducible refine Below.setCell ?_ ?_ _); rotate_left; focus (first | (simp; done) | (simp; omega) | omega))))) (by first | omega | (simp; done) | (simp; omega)) hb3); have hz3a : w.heap.size < w3.heap.size := (by have := hb3.size; first | omega | (simp at this; omega)); have hz3b : w1.heap.size < w3.heap.size := (by have := hb3.size; first | omega | (simp at this; omega)))
        have HO3 := Lib.hid ((hown.out.to HREP.out).keep hb3)
        have HH3 := Lib.hid (blk_below hh.out hb3 hz)
        obtain ⟨g', c', e', hB', hg', hc', hf'⟩ := HO3.out.row (by omega)
        simp only [Value.slice.injEq, Option.some.injEq, Addr.mk.injEq, and_true] at e'
        obtain ⟨rfl, -, rfl⟩ := e'
        have k0 := hc' (b * 5) (by omega)
        have k1 := hc' (b * 5 + 1) (by omega)
        have k2 := hc' (b * 5 + 2) (by omega)
        have k3 := hc' (b * 5 + 3) (by omega)
        have k4 := hc' (b * 5 + 4) (by omega)
        have HSET := Lib.hid (((((HO3.out.set (k := b * 5) (u := p)).set (k := b * 5 + 1) (u := k)).set (k := b * 5 + 2) (u := g)).set (k := b * 5 + 3) (u := (shN D C b : Nat) + (H : Int))).set (k := b * 5 + 4) (u := (H : Int)))
        rw [set5 (bcL_len p k g D H C b)] at HSET
        generalize nth (bcL p k g D H C b ++ 0 :: 0 :: 0 :: 0 :: 0 :: List.replicate ((C - (b + 1)) * 5) 0) (b * 5) = z0 at k0
        generalize nth (bcL p k g D H C b ++ 0 :: 0 :: 0 :: 0 :: 0 :: List.replicate ((C - (b + 1)) * 5) 0) (b * 5 + 1) = z1 at k1
        generalize nth (bcL p k g D H C b ++ 0 :: 0 :: 0 :: 0 :: 0 :: List.replicate ((C - (b + 1)) * 5) 0) (b * 5 + 2) = z2 at k2
        generalize nth (bcL p k g D H C b ++ 0 :: 0 :: 0 :: 0 :: 0 :: List.replicate ((C - (b + 1)) * 5) 0) (b * 5 + 3) = z3 at k3
        generalize nth (bcL p k g D H C b ++ 0 :: 0 :: 0 :: 0 :: 0 :: List.replicate ((C - (b + 1)) * 5) 0) (b * 5 + 4) = z4 at k4
        clear hc' hB' hg' hc3 hf3 c0 c1 c2 c3 c4 c5
        go_wp2_with fail
        go_roundw
        case rel => exact ⟨b + 1, by omega, by go_num, Lib.hid HSET.out, Lib.hid (by
          have := HH3.out
          repeat (first | (with_reducible exact this) | (rw [Below.heap_setCell _ _ _ _ (by first | (simp; done) | omega | (simp; omega))]))), Lib.hid ⟨by (repeat (first | (with_reducible assumption) | (with_reducible exact Below.refl _ _) | (with_reducible refine below_drewN' ?_ _) | (with_reducible refine Below.drew ?_) | ((with_reducible refine Below.alloc ?_ ?_ _); rotate_left; focus (first | (simp; done) | (simp; omega) | omega)) | ((with_reducible refine Below.setCell ?_ ?_ _); rotate_left; focus (first | (simp; done) | (simp; omega) | omega)))), by first | (simp; done) | (simp; omega)⟩⟩
        case measure => simp [intOf]; omega
      · obtain rfl : b = C := by omega
        have HF : Hid (OwnF wo w1.heap.size (.slice (some ⟨w1.heap.size, 0, none⟩) b b) b (bcL p k g D H b b)) := Lib.hid (hown.out.to (by simp))
        go_wp2_with fail
        go_returns
        exact ⟨_, rfl, HF.out.more (Nat.le_of_lt hz1a), hbw⟩
set_option maxRecDepth 50000 in
set_option maxHeartbeats 4000000 in
theorem sBlockCodes_any (p k g data chk cnt : Int) (w : World) :
    Calls Try.prog 26 #[.agg #[.int .i64 p, .int .i64 k, .int .i64 g, .int .i64 data, .int .i64 chk, .int .i64 cnt]] w fun e w' => ∃ v, e = .returned (.tuple #[v, .int .i64 (bcC (layB p k g data chk cnt))]) ∧ OwnF w' w.heap.size v (bcN (layB p k g data chk cnt) cnt.toNat) (bcF (layB p k g data chk cnt) (bcL p k g data.toNat chk.toNat cnt.toNat cnt.toNat)) ∧ Below w.heap.size w w' := by
  have HL := Lib.hid (fun w => sIsLayout_any p k g data chk cnt w)
  cases hl : layB p k g data chk cnt
  · rw [hl] at HL
    rw [bcN_no, bcF_no, bcC_no]
    clear hl
    go_enter Try.func26, Try.ntmps26
    go_wp2_with (go_at_call 49; with_reducible refine (HL.out _).mono ?_; rintro e1 w1 ⟨rfl, hb1⟩; obtain ⟨hc1, hf1⟩ := bcell hb1; have hB1 : Below w.heap.size w w1 := (below_then (by first | (go_grown; done) | (repeat (first | (with_reducible assumption) | (with_reducible exact Below.refl _ _) | (with_reducible refine below_drewN' ?_ _) | (with_reducible refine Below.drew ?_) | ((with_reducible refine Below.alloc ?_ ?_ _); rotate_left; focus (first | (simp; done) | (simp; omega) | omega)) | ((with_reducible refine Below.setCell ?_ ?_ _); rotate_left; focus (first | (simp; done) | (simp; omega) | omega))))) (by first | omega | (simp; done) | (simp; omega)) hb1); have hz1a : w.heap.size < w1.heap.size := (by have := hb1.size; first | omega | (simp at this; omega)))
    go_returns
    exact ⟨.slice none 0 0, rfl, OwnF.nil, by (repeat (first | (with_reducible assumption) | (with_reducible exact Below.refl _ _) | (with_reducible refine below_drewN' ?_ _) | (with_reducible refine Below.drew ?_) | ((with_reducible refine Below.alloc ?_ ?_ _); rotate_left; focus (first | (simp; done) | (simp; omega) | omega)) | ((with_reducible refine Below.setCell ?_ ?_ _); rotate_left; focus (first | (simp; done) | (simp; omega) | omega))))⟩
  · rw [hl] at HL
    obtain ⟨D, C, H, rfl, rfl, rfl, hC1, hC2, hCD, hD, hH1, hH2, hDH, -⟩ := layB_true hl
    rw [bcN_yes, bcF_yes, bcC_yes]
    simp only [Int.toNat_natCast]
    have HB := Lib.hid (fun (b : Nat) (hb : b ≤ 16) (w : World) => l07Block_any p k g D H C b w hC1 hC2 hD hH2 hb)
    obtain ⟨i0, hi⟩ := info_own' info_codes
    have HI := Lib.hid (And.intro i0.bytes.le_refl hi)
    clear hl hi
    go_enter Try.func26, Try.ntmps26
    go_wp2_with (go_at_call 49; with_reducible refine (HL.out _).mono ?_; rintro e1 w1 ⟨rfl, hb1⟩; obtain ⟨hc1, hf1⟩ := bcell hb1; have hB1 : Below w.heap.size w w1 := (below_then (by first | (go_grown; done) | (repeat (first | (with_reducible assumption) | (with_reducible exact Below.refl _ _) | (with_reducible refine below_drewN' ?_ _) | (with_reducible refine Below.drew ?_) | ((with_reducible refine Below.alloc ?_ ?_ _); rotate_left; focus (first | (simp; done) | (simp; omega) | omega)) | ((with_reducible refine Below.setCell ?_ ?_ _); rotate_left; focus (first | (simp; done) | (simp; omega) | omega))))) (by first | omega | (simp; done) | (simp; omega)) hb1); have hz1a : w.heap.size < w1.heap.size := (by have := hb1.size; first | omega | (simp at this; omega)))
    have hh1 := blk_below (heap_alloc_new w (.cells #[.int .i64 p, .int .i64 k, .int .i64 g, .int .i64 D, .int .i64 H, .int .i64 C] 30)) hb1 (by simp)
    have HO := Lib.hid (OwnF.empty w1 (Nat.le_refl _))
    have HH2 := Lib.hid (blk_alloc (u := .cells #[] 95) hh1 hz1a)
    have HB2 := Lib.hid (hB1.alloc (Nat.le_of_lt hz1a) (.cells #[] 95))
    clear hc1 hf1 hh1 hb1 hB1
    go_wp2_with fail
    go_loopw [4, 5] (fun q i wr => ∃ b : Nat, b ≤ C ∧ i = .int .i64 b ∧ Hid (OwnF wr w1.heap.size q b (bcL p k g D H C b)) ∧ Hid (wr.heap[w.heap.size]? = some (.cells #[.int .i64 p, .int .i64 k, .int .i64 g, .int .i64 D, .int .i64 H, .int .i64 C] 30 (0, 0))) ∧ Hid (Below w.heap.size w wr ∧ w1.heap.size < wr.heap.size))
      (fun _ i _ => C - (intOf i).toNat)
    case atStart => exact ⟨0, Nat.zero_le _, rfl, Lib.hid HO.out, HH2, Lib.hid ⟨HB2.out, by simp⟩⟩
    case round =>
      rename World => wo
      obtain ⟨b, hb, rfl, hown, hh, hbl⟩ := hrel
      obtain ⟨c0, c1, c2, c3, c4, c5, -⟩ := blk6 hh.out
      have hz := lt_of_block hh.out
      have hbw := hbl.out.1
      have hzw := hbl.out.2
      by_cases hlt : b < C
      · have HBb := Lib.hid (HB.out b (by omega))
        go_wp2_with fail
        go_at_call 75
        with_reducible refine (HBb.out _).mono ?_
        rintro e3 w3 ⟨rfl, hb3⟩
        have hB3 : Below w.heap.size w w3 := below_then hbw (Nat.le_of_lt hz) hb3
        have hz3 := hb3.size
        have HO3 := Lib.hid (hown.out.keep hb3)
        have HH3 := Lib.hid (blk_below hh.out hb3 hz)
        clear c0 c1 c2 c3 c4 c5
        go_wp2_with (at_builtin; refine wpList_append_own_at _ rfl _ _ 51 rfl (w1.heap.size) 95 i0 (.agg #[.int .i64 0, .int .i64 0, .int .i64 0, .int .i64 0, .int .i64 0]) 5 40 Try.underlying51 HI.out.2.1 HI.out.2.2.1 HI.out.2.2.2.1 HI.out.2.2.2.2 rfl (by decide) _ _ _ rfl (OwnF.alloc HO3.out _) ⟨w3.heap.size, 0, none⟩ 1 1 [.int .i64 p, .int .i64 k, .int .i64 g, .int .i64 ((shN D C b : Nat) + (H : Int)), .int .i64 H] rfl rfl (cells5_new _ _ _) (int5_ok _ _ _ _ _) (by unfold maxLen; omega) (by omega) (by rw [World.size_alloc]; omega) ?_; intro v4 w4 hown4 hg4 _ hat4)
        have HO4 := Lib.hid (OwnF.snoc hown4)
        have hs4 := hg4.size
        rw [World.size_alloc] at hs4
        have HB4 := Lib.hid ((hB3.alloc (by omega) _).grown hg4 (by rw [World.size_alloc]; omega) (fun k hk => by have := (World.ownsRow.lt HO3.out k hk).1; omega))
        have HH4 := Lib.hid ((hg4.block w.heap.size (by rw [World.size_alloc]; omega) (fun e => by have := (World.ownsRow.lt HO3.out _ e.symm).1; omega)).trans (blk_alloc HH3.out (by omega)))
        clear hown4 hg4 hat4
        go_wp2_with fail
        go_roundw
        case rel => exact ⟨b + 1, by omega, by go_num, Lib.hid HO4.out, Lib.hid HH4.out, Lib.hid ⟨HB4.out, by omega⟩⟩
        case measure => simp [intOf]; omega
      · obtain rfl : b = C := by omega
        go_wp2_with fail
        go_returns
        exact ⟨_, rfl, hown.out.more (Nat.le_of_lt hz1a), hbw⟩
end Go.Proofs.Ytbgcbjfimjfbpaa
