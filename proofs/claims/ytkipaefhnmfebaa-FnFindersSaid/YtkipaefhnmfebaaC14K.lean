/-
  Contracts of chapter 14, the reference: a grid with a format word.
-/
import Derived.Test.YtkipaefhnmfebaaPut
import Derived.Test.YtkipaefhnmfebaaC14O
import Derived.Test.YtkipaefhnmfebaaC14P
import Derived.Test.YtkipaefhnmfebaaC08
import Derived.Test.YtkipaefhnmfebaaBlk
namespace Go.Proofs.Ytkipaefhnmfebaa
set_option linter.unusedSimpArgs false
open Go.RowKit

theorem poly_std : polyOk 1335 10 := by unfold polyOk; decide
theorem Own.cellsNe {w w' : World} {B g c n : Nat} {xs : List Int} {row : Option Nat} (h : Own w B (.slice (some ⟨g, 0, none⟩) n c) xs) (hl : xs.length = n) (hg : w.grownBy w' row) (hne : some g ≠ row) : ∀ k, k < n → w'.cell? ⟨g, k, none⟩ = some (.int .i64 (nth xs k)) := by
  intro k hk
  obtain ⟨g', c', e, _, _, hc, _⟩ := h.row (by omega)
  simp only [Value.slice.injEq, Option.some.injEq, Addr.mk.injEq, and_true] at e
  obtain ⟨rfl, -, -⟩ := e
  exact hg.cell (hc k (by omega)) hne
theorem OwnP.cellsNe {w w' : World} {B g c n : Nat} {ps : List (Int × Int)} {row : Option Nat} (h : OwnP w B (.slice (some ⟨g, 0, none⟩) n c) ps) (hl : ps.length = n) (h0 : 0 < n) (hg : w.grownBy w' row) (hne : some g ≠ row) : ∀ k, k < n → w'.cell? ⟨g, k * 2, none⟩ = some (.int .i64 (nthP ps k).1) ∧ w'.cell? ⟨g, k * 2 + 1, none⟩ = some (.int .i64 (nthP ps k).2) := by
  intro k hk
  obtain ⟨g', c', e, _, _, hc⟩ := h.cells (by omega)
  simp only [Value.slice.injEq, Option.some.injEq, Addr.mk.injEq, and_true] at e
  obtain ⟨rfl, -, -⟩ := e
  obtain ⟨a, b⟩ := hc k (by omega)
  exact ⟨hg.cell a hne, hg.cell b hne⟩
theorem sStd_any (w : World) : Calls Try.prog 107 #[] w fun e w' => e = .returned (.agg #[.int .i64 5, .int .i64 15, .int .i64 1335]) ∧ Below w.heap.size w w' := by
  go_enter Try.func107, Try.ntmps107
  go_wp2_with fail
  go_returns
  exact ⟨rfl, by (repeat (first | (with_reducible assumption) | (with_reducible exact Below.refl _ _) | (with_reducible refine below_drewN' ?_ _) | (with_reducible refine Below.drew ?_) | ((with_reducible refine Below.alloc ?_ ?_ _); rotate_left; focus (first | (simp; done) | (simp; omega) | omega)) | ((with_reducible refine Below.setCell ?_ ?_ _); rotate_left; focus (first | (simp; done) | (simp; omega) | omega))))⟩
theorem l08Std_any (V : Nat) (w : World) (hV : V < 32) :
    Calls Try.prog 106 #[.agg #[.int .i64 5, .int .i64 15, .int .i64 1335], .int .i64 V] w fun e w' => ∃ v', e = .returned v' ∧ Own w' w.heap.size v' (stdW V) ∧ Below w.heap.size w w' :=
  l08Word_any 5 10 1335 V w (by decide) (by decide) (by decide) (by decide) poly_std (by simpa using hV)
set_option maxRecDepth 20000 in
set_option maxHeartbeats 4000000 in
theorem l14Put_any (N V b o c : Nat) (xs : List Int) (w : World) (B : Nat) (hN : 17 ≤ N ∧ N ≤ 41 ∧ N % 4 = 1) (hV : V < 32) (hr : RI w B (some ⟨b, o, none⟩) (N * N) xs) (hB : B ≤ w.heap.size) :
    Calls Try.prog 80 #[.agg #[.int .i64 N, .int .i64 N, .slice (some ⟨b, o, none⟩) (N * N) c], .int .i64 V] w fun e w' =>
      ∃ v', e = .returned (.agg #[.int .i64 N, .int .i64 N, v']) ∧ Own w' w.heap.size v' (put1 N fmtA (fmtB N) (stdW V) xs 15) ∧ Below w.heap.size w w' := by
  have HN := Lib.hid hN
  have hW := fun w => l08Std_any V w hV
  have hF := fun w => l14Format_any N w ⟨hN.1, hN.2.1⟩
  have hle := Lib.hid (fmtB_len N)
  have hla := Lib.hid fmtA_len
  have hlw := Lib.hid (stdW_len V)
  have hw01 := Lib.hid (fun i => stdW_01 V i)
  have hina := Lib.hid (fun (p : Int × Int) (hp : p ∈ fmtA) => fmt_in HN.out (p := p) (List.mem_append_left _ hp))
  have hinb := Lib.hid (fun (p : Int × Int) (hp : p ∈ fmtB N) => fmt_in HN.out (p := p) (List.mem_append_right _ hp))
  generalize fmtA = fa at hF hla hina ⊢
  generalize fmtB (N : Int) = fb at hF hle hinb ⊢
  generalize stdW V = wl at hW hlw hw01 ⊢
  have HW := Lib.hid hW
  have HF := Lib.hid hF
  clear hW hF
  have hN1 := hN.1
  have hN2 := hN.2.1
  have hNN : N * N ≤ 1681 := Nat.mul_le_mul hN2 hN2
  have hN0 : 0 < N * N := Nat.mul_pos (by omega) (by omega)
  have HL := Lib.hid hr.len
  have HR := Lib.hid ((hr.alloc hB (.cells #[.int .i64 (N : Int), .int .i64 (N : Int), .slice (some ⟨b, o, none⟩) (N * N) c] 41)).alloc (by simp; omega) (.cells #[.int .i64 0, .int .i64 0, .slice none 0 0] 41))
  clear hr hN hV
  go_enter Try.func80, Try.ntmps80
  go_wp2_with fail
  (go_at_call 82; go_call (l01Own_any b o (N * N) c xs _ B HR.out hN0 (by omega)) as e1 w1 ⟨v1, rfl, ho1, hb1⟩; obtain ⟨hc1, hf1⟩ := bcell hb1; have hB1 : Below w.heap.size w w1 := (below_then (by first | (go_grown; done) | (repeat (first | (with_reducible assumption) | (with_reducible exact Below.refl _ _) | (with_reducible refine below_drewN' ?_ _) | (with_reducible refine Below.drew ?_) | ((with_reducible refine Below.alloc ?_ ?_ _); rotate_left; focus (first | (simp; done) | (simp; omega) | omega)) | ((with_reducible refine Below.setCell ?_ ?_ _); rotate_left; focus (first | (simp; done) | (simp; omega) | omega))))) (by first | omega | (simp; done) | (simp; omega)) hb1); have hz1a : w.heap.size < w1.heap.size := (by have := hb1.size; first | omega | (simp at this; omega)); have hz1b : w.heap.size + 1 < w1.heap.size := (by have := hb1.size; first | omega | (simp at this; omega)))
  have HX := Lib.hid (blk_below (w := (w.alloc (.cells #[.int .i64 (N : Int), .int .i64 (N : Int), .slice (some ⟨b, o, none⟩) (N * N) c] 41)).alloc (.cells #[.int .i64 0, .int .i64 0, .slice none 0 0] 41)) (b := w.heap.size) (o := some (.cells #[.int .i64 (N : Int), .int .i64 (N : Int), .slice (some ⟨b, o, none⟩) (N * N) c] 41 (0, 0))) (by (repeat (first | (with_reducible exact heap_alloc_new _ _) | (rw [heap_drew1]) | (rw [heap_drewN1]) | (rw [Below.heap_setCell _ _ _ _ (by first | omega | (simp; done) | (simp; omega))]) | (rw [Below.heap_alloc _ _ _ (by first | omega | (simp; done) | (simp; omega))]) | (exact heap_alloc_at (by first | omega | (simp; done) | (simp; omega)))))) hb1 (by simp; omega))
  have HZ := Lib.hid (blk_below (w := (w.alloc (.cells #[.int .i64 (N : Int), .int .i64 (N : Int), .slice (some ⟨b, o, none⟩) (N * N) c] 41)).alloc (.cells #[.int .i64 0, .int .i64 0, .slice none 0 0] 41)) (b := w.heap.size + 1) (o := some (.cells #[.int .i64 0, .int .i64 0, .slice none 0 0] 41 (0, 0))) (by (repeat (first | (with_reducible exact heap_alloc_new _ _) | (rw [heap_drew1]) | (rw [heap_drewN1]) | (rw [Below.heap_setCell _ _ _ _ (by first | omega | (simp; done) | (simp; omega))]) | (rw [Below.heap_alloc _ _ _ (by first | omega | (simp; done) | (simp; omega))]) | (exact heap_alloc_at (by first | omega | (simp; done) | (simp; omega)))))) hb1 (by simp))
  obtain ⟨g, cp, rfl, hgB, hgw, -, -⟩ := ho1.row (by rw [HL.out]; exact hN0)
  rw [HL.out] at ho1 ⊢
  have HO1 := Lib.hid ho1
  simp only [World.size_alloc] at hgB
  clear ho1 hc1 hf1
  go_wp2_with fail
  (go_at_call 107; go_call (sStd_any _) as e2 w2 ⟨rfl, hb2⟩; obtain ⟨hc2, hf2⟩ := bcell hb2; have hB2 : Below w.heap.size w w2 := (below_then (by first | (go_grown; done) | (repeat (first | (with_reducible assumption) | (with_reducible exact Below.refl _ _) | (with_reducible refine below_drewN' ?_ _) | (with_reducible refine Below.drew ?_) | ((with_reducible refine Below.alloc ?_ ?_ _); rotate_left; focus (first | (simp; done) | (simp; omega) | omega)) | ((with_reducible refine Below.setCell ?_ ?_ _); rotate_left; focus (first | (simp; done) | (simp; omega) | omega))))) (by first | omega | (simp; done) | (simp; omega)) hb2))
  have hs2 := hb2.size
  clear hc2 hf2
  go_wp2_with fail
  (go_at_call 106; with_reducible refine (HW.out _).mono ?_; rintro e3 w3 ⟨v3, rfl, ho3, hb3⟩; obtain ⟨hc3, hf3⟩ := bcell hb3; have hB3 : Below w.heap.size w w3 := (below_then (by first | (go_grown; done) | (repeat (first | (with_reducible assumption) | (with_reducible exact Below.refl _ _) | (with_reducible refine below_drewN' ?_ _) | (with_reducible refine Below.drew ?_) | ((with_reducible refine Below.alloc ?_ ?_ _); rotate_left; focus (first | (simp; done) | (simp; omega) | omega)) | ((with_reducible refine Below.setCell ?_ ?_ _); rotate_left; focus (first | (simp; done) | (simp; omega) | omega))))) (by first | omega | (simp; done) | (simp; omega)) hb3))
  have hs3 := hb3.size
  obtain ⟨g3, c3, rfl, hgB3, hgw3, -, -⟩ := ho3.row (by rw [hlw.out]; decide)
  rw [hlw.out] at ho3 ⊢
  have HO3 := Lib.hid ho3
  have HX3 := Lib.hid (blk_below (blk_below HX.out hb2 (by omega)) hb3 (by omega))
  have HZ3 := Lib.hid (blk_below (blk_below HZ.out hb2 (by omega)) hb3 (by omega))
  have HO13 := Lib.hid ((HO1.out.keep hb2).keep hb3)
  clear hc3 hf3 ho3
  obtain ⟨y0, y1, y2, -⟩ := blk3 HX3.out
  go_wp2_with fail
  (go_at_call 108; with_reducible refine (HF.out _).mono ?_; rintro e4 w4 ⟨v4, v5, rfl, hT, hb4⟩; obtain ⟨hc4, hf4⟩ := bcell hb4; have hB4 : Below w.heap.size w w4 := (below_then (by first | (go_grown; done) | (repeat (first | (with_reducible assumption) | (with_reducible exact Below.refl _ _) | (with_reducible refine below_drewN' ?_ _) | (with_reducible refine Below.drew ?_) | ((with_reducible refine Below.alloc ?_ ?_ _); rotate_left; focus (first | (simp; done) | (simp; omega) | omega)) | ((with_reducible refine Below.setCell ?_ ?_ _); rotate_left; focus (first | (simp; done) | (simp; omega) | omega))))) (by first | omega | (simp; done) | (simp; omega)) hb4))
  have hs4 := hb4.size
  obtain ⟨g4, c4, rfl, hgB4, hgw4, -⟩ := hT.1.cells (by rw [hla.out]; decide)
  obtain ⟨g5, c5, rfl, hgB5, hgw5, -⟩ := hT.2.1.cells (by rw [hle.out]; decide)
  rw [hla.out, hle.out] at hT ⊢
  have HT := Lib.hid hT
  have HX4 := Lib.hid (blk_below HX3.out hb4 (by omega))
  have HZ4 := Lib.hid (blk_below HZ3.out hb4 (by omega))
  have HO14 := Lib.hid (HO13.out.keep hb4)
  have HO34 := Lib.hid (HO3.out.keep hb4)
  have HB4 := Lib.hid hB4
  clear y0 y1 y2 hc4 hf4 hT
  go_wp2_with fail
  go_loopw [9] (fun q wr => ∃ i : Nat, i ≤ 15 ∧ q = .int .i64 i ∧ Hid (Own wr (w.heap.size + 1 + 1) (.slice (some ⟨g, 0, none⟩) (N * N) cp) (put1 N fa fb wl xs i)) ∧ Hid (w4.grownBy wr (some g)))
    (fun q _ => 15 - (intOf q).toNat)
  case atStart => exact ⟨0, Nat.zero_le _, rfl, Lib.hid (by have := HO14.out; simp only [World.size_alloc] at this; exact this), Lib.hid (World.grownBy.refl _ _)⟩
  case round =>
    obtain ⟨i, hi, rfl, hown, hg⟩ := hrel
    have hsr := hg.out.size
    by_cases hlt : i < 15
    · have hP1 := Lib.hid (put1_len N fa fb wl xs i)
      have hPL : Hid ((put1 N fa fb wl xs i).length = N * N) := Lib.hid (by rw [hP1.out, HL.out])
      have hst := (show put1 N fa fb wl xs (i + 1) = ((put1 N fa fb wl xs i).set (idxP N (nthP fa i)) (nth wl i)).set (idxP N (nthP fb i)) (nth wl i) from rfl)
      have hra := hina.out _ (nthP_mem (ps := fa) (k := i) (by rw [hla.out]; exact hlt))
      have hrb := hinb.out _ (nthP_mem (ps := fb) (k := i) (by rw [hle.out]; exact hlt))
      obtain ⟨p0, p1⟩ := OwnP.cellsNe HT.out.1 hla.out (by omega) hg.out (fun e => by have : g4 = g := Option.some.inj e; omega) i hlt
      obtain ⟨q0, q1⟩ := OwnP.cellsNe HT.out.2.1 hle.out (by omega) hg.out (fun e => by have : g5 = g := Option.some.inj e; omega) i hlt
      have wc := Own.cellsNe HO34.out hlw.out hg.out (fun e => by have : g3 = g := Option.some.inj e; omega) i hlt
      obtain ⟨y0, y1, y2, -⟩ := blk3 ((hg.out.block w.heap.size (by omega) (fun e => by have : w.heap.size = g := Option.some.inj e; omega)).trans HX4.out)
      generalize nthP fa i = pa at p0 p1 hra hst
      obtain ⟨pb, hpbe⟩ : ∃ pb, nthP fb i = pb := ⟨_, rfl⟩
      rw [hpbe] at q0 q1 hrb hst
      have hwx := hw01.out i
      obtain ⟨x, hxe⟩ : ∃ x, nth wl i = x := ⟨_, rfl⟩
      rw [hxe] at wc hst hwx
      have hxe := Lib.hid hxe
      obtain ⟨a1, a2⟩ := pa
      obtain ⟨b1, b2⟩ := pb
      simp only at p0 p1 q0 q1 hra hrb
      obtain ⟨A1, rfl⟩ := Int.eq_ofNat_of_zero_le hra.1
      obtain ⟨A2, rfl⟩ := Int.eq_ofNat_of_zero_le hra.2.1
      obtain ⟨B1, rfl⟩ := Int.eq_ofNat_of_zero_le hrb.1
      obtain ⟨B2, rfl⟩ := Int.eq_ofNat_of_zero_le hrb.2.1
      have hpbe := Lib.hid hpbe
      have hst := Lib.hid hst
      have ea : A1 * N + A2 < N * N := cell_lt (by omega) (by omega)
      have eb : B1 * N + B2 < N * N := cell_lt (by omega) (by omega)
      have hia : Hid (idxP N ((A1 : Int), (A2 : Int)) = A1 * N + A2) := Lib.hid (by unfold idxP; simp; rw [show ((A1 : Int) * N + A2) = ((A1 * N + A2 : Nat) : Int) by simp, Int.toNat_natCast])
      have hib : Hid (idxP N ((B1 : Int), (B2 : Int)) = B1 * N + B2) := Lib.hid (by unfold idxP; simp; rw [show ((B1 : Int) * N + B2) = ((B1 * N + B2 : Nat) : Int) by simp, Int.toNat_natCast])
      have tA : ((A1 : Int) * N + A2).toNat = A1 * N + A2 := by rw [show ((A1 : Int) * N + A2) = ((A1 * N + A2 : Nat) : Int) by simp, Int.toNat_natCast]
      have tB : ((B1 : Int) * N + B2).toNat = B1 * N + B2 := by rw [show ((B1 : Int) * N + B2) = ((B1 * N + B2 : Nat) : Int) by simp, Int.toNat_natCast]
      have uA : 0 ≤ (A1 : Int) * N ∧ (A1 : Int) * N ≤ 1681 := by
        have e1 : A1 * N ≤ N * N := Nat.mul_le_mul_right _ (by omega)
        have e2 : ((A1 * N : Nat) : Int) = (A1 : Int) * N := by simp
        omega
      have uB : 0 ≤ (B1 : Int) * N ∧ (B1 : Int) * N ≤ 1681 := by
        have e1 : B1 * N ≤ N * N := Nat.mul_le_mul_right _ (by omega)
        have e2 : ((B1 * N : Nat) : Int) = (B1 : Int) * N := by simp
        omega
      have vA : (A1 : Int) * N + A2 < (N : Int) * N := by
        have : ((A1 * N + A2 : Nat) : Int) < ((N * N : Nat) : Int) := by omega
        simpa using this
      have vB : (B1 : Int) * N + B2 < (N : Int) * N := by
        have : ((B1 * N + B2 : Nat) : Int) < ((N * N : Nat) : Int) := by omega
        simpa using this
      have wA1 : IntKind.i64.wrap ((A1 : Int) * N) = (A1 : Int) * N := i64_in (by omega)
      have wA2 : IntKind.i64.wrap ((A1 : Int) * N + A2) = (A1 : Int) * N + A2 := i64_in (by omega)
      have wB1 : IntKind.i64.wrap ((B1 : Int) * N) = (B1 : Int) * N := i64_in (by omega)
      have wB2 : IntKind.i64.wrap ((B1 : Int) * N + B2) = (B1 : Int) * N + B2 := i64_in (by omega)
      have zA : 0 ≤ (A1 : Int) * N + A2 := by omega
      have zB : 0 ≤ (B1 : Int) * N + B2 := by omega
      have hbw : Below w.heap.size w wr := HB4.out.grown hg.out (by omega) (fun q hq => by have : g = q := Option.some.inj hq; omega)
      have hbl0 : w.heap.size < wr.heap.size := by omega
      have hbl3 : g3 < wr.heap.size := by omega
      have hbl4 : g4 < wr.heap.size := by omega
      have hbl5 : g5 < wr.heap.size := by omega
      have hblg : g < wr.heap.size := by omega
      obtain ⟨g', c', e', hB', hg', hc', hf'⟩ := hown.out.row (by rw [hPL.out]; exact hN0)
      obtain ⟨rfl, rfl⟩ : g = g' ∧ cp = c' := by
        simp only [Value.slice.injEq, Option.some.injEq, Addr.mk.injEq, and_true] at e'
        exact ⟨e'.1, e'.2.2⟩
      have hcka := hc' (A1 * N + A2) (by rw [hPL.out]; exact ea)
      have hfka := hf' (A1 * N + A2)
      clear hc' hf' e' hB' hg'
      go_wp2_with fail
      refine wp_region_qat [] 20 [] (by kernel_rfl) (by kernel_rfl) ?_
      intro hbc
      simp only [List.take_succ_cons, List.take_zero, List.drop_succ_cons, List.drop_zero]
      repeat (first
        | refine wpQ_pass rfl ?_
        | (refine wpQ_step rfl (fun K hK => ?_)
           go_simp
           first
             | (refine hK _ ?_; clear hK K)))
      refine wpQ_nil ⟨?_, ?_⟩
      · exact rfl
      intro  w7 hb7 hF7
      clear hbc
      obtain ⟨hc7, hf7⟩ := bcell hb7
      have hB7 : Below w.heap.size w w7 := below_then (by first | (go_grown; done) | (repeat (first | (with_reducible assumption) | (with_reducible exact Below.refl _ _) | (with_reducible refine below_drewN' ?_ _) | (with_reducible refine Below.drew ?_) | ((with_reducible refine Below.alloc ?_ ?_ _); rotate_left; focus (first | (simp; done) | (simp; omega) | omega)) | ((with_reducible refine Below.setCell ?_ ?_ _); rotate_left; focus (first | (simp; done) | (simp; omega) | omega))))) (by first | (simp; done) | (simp; omega) | omega) hb7
      have hz7a : w.heap.size < w7.heap.size := (by have := hb7.size; first | omega | (simp at this; omega))
      have hz7b : g3 < w7.heap.size := (by have := hb7.size; first | omega | (simp at this; omega))
      have hz7c : g4 < w7.heap.size := (by have := hb7.size; first | omega | (simp at this; omega))
      have hz7d : g5 < w7.heap.size := (by have := hb7.size; first | omega | (simp at this; omega))
      have hz7e : g < w7.heap.size := (by have := hb7.size; first | omega | (simp at this; omega))
      clear hF7
      try simp only [Act.put, List.setIfInBounds_toArray, List.set_cons_succ, List.set_cons_zero]
      have ho7 := hown.out.keep hb7
      have ho8 := Lib.hid (Own.setn hPL.out ho7 (k := A1 * N + A2) (u := x))
      have hg7 := Lib.hid (show w4.grownBy w7 (some g) from ⟨hb7.os.trans hg.out.os, hb7.tape.trans hg.out.tape, hb7.output.trans hg.out.output, by have := hb7.size; omega, fun k hk hne => (hb7.block k (by omega)).trans (hg.out.block k hk hne)⟩)
      have hg8 := Lib.hid (grown_set (k := A1 * N + A2) hg7.out (.int .i64 x))
      have hPL2 : Hid (((put1 N fa fb wl xs i).set (A1 * N + A2) x).length = N * N) := Lib.hid (by rw [List.length_set]; exact hPL.out)
      have hs7 := hb7.size
      clear ho7
      go_wp2_with fail
      clear hc7 hf7 hcka hfka p0 p1 q0 q1 wc y0 y1 y2
      obtain ⟨q0, q1⟩ := OwnP.cellsNe HT.out.2.1 hle.out (by omega) hg8.out (fun e => by have : g5 = g := Option.some.inj e; omega) i hlt
      have wc := Own.cellsNe HO34.out hlw.out hg8.out (fun e => by have : g3 = g := Option.some.inj e; omega) i hlt
      rw [hpbe.out] at q0 q1
      rw [hxe.out] at wc
      simp only at q0 q1
      obtain ⟨y0, y1, y2, -⟩ := blk3 ((hg8.out.block w.heap.size (by omega) (fun e => by have : w.heap.size = g := Option.some.inj e; omega)).trans HX4.out)
      have hbl0' : w.heap.size < (w7.setCell ⟨g, A1 * N + A2, none⟩ (.int .i64 x)).heap.size := by simp; omega
      have hbl3' : g3 < (w7.setCell ⟨g, A1 * N + A2, none⟩ (.int .i64 x)).heap.size := by simp; omega
      have hbl5' : g5 < (w7.setCell ⟨g, A1 * N + A2, none⟩ (.int .i64 x)).heap.size := by simp; omega
      have hblg' : g < (w7.setCell ⟨g, A1 * N + A2, none⟩ (.int .i64 x)).heap.size := by simp; omega
      obtain ⟨g', c', e', hB', hg', hc', hf'⟩ := ho8.out.row (by rw [hPL2.out]; exact hN0)
      obtain ⟨rfl, rfl⟩ : g = g' ∧ cp = c' := by
        simp only [Value.slice.injEq, Option.some.injEq, Addr.mk.injEq, and_true] at e'
        exact ⟨e'.1, e'.2.2⟩
      have hckb := hc' (B1 * N + B2) (by rw [hPL2.out]; exact eb)
      have hfkb := hf' (B1 * N + B2)
      clear hc' hf' e' hB' hg'
      have hbw8 : Below w.heap.size w (w7.setCell ⟨g, A1 * N + A2, none⟩ (.int .i64 x)) := hB7.setCell (show w.heap.size ≤ g by omega) _
      refine wp_region_qat [] 20 [] (by kernel_rfl) (by kernel_rfl) ?_
      intro hbc
      simp only [List.take_succ_cons, List.take_zero, List.drop_succ_cons, List.drop_zero]
      repeat (first
        | refine wpQ_pass rfl ?_
        | (refine wpQ_step rfl (fun K hK => ?_)
           go_simp
           first
             | (refine hK _ ?_; clear hK K)))
      refine wpQ_nil ⟨?_, ?_⟩
      · exact rfl
      intro  w8 hb8 hF8
      clear hbc
      obtain ⟨hc8, hf8⟩ := bcell hb8
      have hB8 : Below w.heap.size w w8 := below_then (by first | (go_grown; done) | (repeat (first | (with_reducible assumption) | (with_reducible exact Below.refl _ _) | (with_reducible refine below_drewN' ?_ _) | (with_reducible refine Below.drew ?_) | ((with_reducible refine Below.alloc ?_ ?_ _); rotate_left; focus (first | (simp; done) | (simp; omega) | omega)) | ((with_reducible refine Below.setCell ?_ ?_ _); rotate_left; focus (first | (simp; done) | (simp; omega) | omega))))) (by first | (simp; done) | (simp; omega) | omega) hb8
      have hz8a : w.heap.size < w8.heap.size := (by have := hb8.size; first | omega | (simp at this; omega))
      have hz8b : g < w8.heap.size := (by have := hb8.size; first | omega | (simp at this; omega))
      clear hF8
      try simp only [Act.put, List.setIfInBounds_toArray, List.set_cons_succ, List.set_cons_zero]
      have ho9 := Lib.hid (Own.setn hPL2.out (ho8.out.keep hb8) (k := B1 * N + B2) (u := x))
      have hs8 := hb8.size
      have hg9 := Lib.hid (show w4.grownBy w8 (some g) from ⟨hb8.os.trans hg8.out.os, hb8.tape.trans hg8.out.tape, hb8.output.trans hg8.out.output, by simp at hs8; omega, fun k hk hne => (hb8.block k (by simp; omega)).trans (hg8.out.block k hk hne)⟩)
      have hg10 := Lib.hid (grown_set (k := B1 * N + B2) hg9.out (.int .i64 x))
      go_wp2_with fail
      go_roundw
      case rel => refine ⟨i + 1, by omega, by go_num, ?_⟩; first | exact ⟨Lib.hid (by rw [hst.out, hia.out, hib.out]; exact ho9.out), hg10⟩ | exact Lib.hid (by rw [hst.out, hia.out, hib.out]; exact ho9.out)
      case measure => simp [intOf]; omega
    · obtain rfl : i = 15 := by omega
      obtain ⟨y0, y1, y2, -⟩ := blk3 ((hg.out.block w.heap.size (by omega) (fun e => by have : w.heap.size = g := Option.some.inj e; omega)).trans HX4.out)
      have HZr := Lib.hid ((hg.out.block (w.heap.size + 1) (by omega) (fun e => by have : w.heap.size + 1 = g := Option.some.inj e; omega)).trans HZ4.out)
      obtain ⟨z0, z1, z2, zf⟩ := blk3 HZr.out
      go_wp2_with fail
      obtain ⟨s0, s1, s2⟩ := res3 HZr.out (.int .i64 (N : Int)) (.int .i64 (N : Int)) (.slice (some ⟨g, 0, none⟩) (N * N) cp)
      (try simp only [Exit.inBlock, Exit.then]); refine bodyPost_ret (by simp [results, Try.results80, go_sem, s0, s1, s2]; try rfl) rfl ?_
      exact ⟨_, rfl, ((((hown.out.setLt (p := ⟨w.heap.size + 1, 0, none⟩) (Nat.lt_succ_self _) _).setLt (p := ⟨w.heap.size + 1, 1, none⟩) (Nat.lt_succ_self _) _).setLt (p := ⟨w.heap.size + 1, 2, none⟩) (Nat.lt_succ_self _) _)).more (by omega),
        (((HB4.out.grown hg.out (by omega) (fun q hq => by have : g = q := Option.some.inj hq; omega)).setCell (Nat.le_succ _) _).setCell (Nat.le_succ _) _).setCell (Nat.le_succ _) _⟩
end Go.Proofs.Ytkipaefhnmfebaa
