/-
  Contracts of chapter 14: a grid with a format word, the program and the reference.
-/
import Derived.Test.YtgokleeofcleiaaC14K
import Derived.Test.YtgokleeofcleiaaC14S
import Derived.Test.YtgokleeofcleiaaC14E
import Derived.Test.YtgokleeofcleiaaLst
import Derived.Deep.RegionHeld3
namespace Go.Proofs.Ytgokleeofcleiaa
set_option linter.unusedSimpArgs false
open Go.RowKit

theorem iStd_any (w : World) : Calls Try.prog 76 #[] w fun e w' => e = .returned (.agg #[.int .i64 5, .int .i64 15, .int .i64 1335]) ∧ Below w.heap.size w w' := by
  go_enter Try.func76, Try.ntmps76
  go_wp2_with fail
  go_returns
  exact ⟨rfl, by (repeat (first | (with_reducible assumption) | (with_reducible exact Below.refl _ _) | (with_reducible refine below_drewN' ?_ _) | (with_reducible refine Below.drew ?_) | ((with_reducible refine Below.alloc ?_ ?_ _); rotate_left; focus (first | (simp; done) | (simp; omega) | omega)) | ((with_reducible refine Below.setCell ?_ ?_ _); rotate_left; focus (first | (simp; done) | (simp; omega) | omega))))⟩
theorem numStd_any (V : Nat) (w : World) (hV : V < 32) :
    Calls Try.prog 91 #[.agg #[.int .i64 5, .int .i64 15, .int .i64 1335], .int .i64 V] w fun e w' => e = .returned (.int .i64 (fword 5 15 1335 V)) ∧ Below w.heap.size w w' :=
  number_any 5 10 1335 V w (by decide) (by decide) (by decide) (by decide) poly_std (by simpa using hV)
theorem fw_bd {V : Nat} (hV : V < 32) : fword 5 15 1335 V < 4611686018427387904 := by
  have := fword_lt (D := 5) (L := 15) (P := 1335) (v := V) (by decide) poly_std (by simpa using hV)
  have h2 : (2 : Nat) ^ 15 < 4611686018427387904 := by decide
  omega
theorem appStd_any (V : Nat) (w : World) (hV : V < 32) :
    Calls Try.prog 90 #[.slice none 0 0, .int .i64 (fword 5 15 1335 V), .int .i64 15] w fun e w' => ∃ v', e = .returned v' ∧ Own w' w.heap.size v' (stdW V) ∧ Below w.heap.size w w' :=
  appendNumber_any (.slice none 0 0) [] (fword 5 15 1335 V) 15 w w.heap.size Own.nil (Nat.le_refl _) (by simp) (by decide) (fw_bd hV)
set_option maxRecDepth 20000 in
set_option maxHeartbeats 4000000 in
theorem putFormat_any (N V g cp : Nat) (xs : List Int) (w : World) (B : Nat) (hN : 17 ≤ N ∧ N ≤ 41 ∧ N % 4 = 1) (hV : V < 32) (ho : Own w B (.slice (some ⟨g, 0, none⟩) (N * N) cp) xs) (hl : xs.length = N * N) (hg : g < w.heap.size) :
    Calls Try.prog 64 #[.agg #[.int .i64 N, .int .i64 N, .slice (some ⟨g, 0, none⟩) (N * N) cp], .int .i64 V] w fun e w' =>
      e = .returned (.tuple #[]) ∧ Own w' B (.slice (some ⟨g, 0, none⟩) (N * N) cp) (put1 N fmtA (fmtB N) (stdW V) xs 15) ∧ w.grownBy w' (some g) := by
  have HN := Lib.hid hN
  have HS := Lib.hid (fun w => numStd_any V w hV)
  have hA := fun w => appStd_any V w hV
  have hF := fun w => formats_any N w ⟨hN.1, hN.2.1⟩
  have hN1 := hN.1
  have hN2 := hN.2.1
  have hNN : N * N ≤ 1681 := Nat.mul_le_mul hN2 hN2
  have hfv : (fword 5 15 1335 V : Int) ≤ 4611686018427387904 := by have := fw_bd hV; omega
  have hle := Lib.hid (fmtB_len N)
  have hla := Lib.hid fmtA_len
  have hlw := Lib.hid (stdW_len V)
  have hw01 := Lib.hid (fun i => stdW_01 V i)
  have hina := Lib.hid (fun (p : Int × Int) (hp : p ∈ fmtA) => fmt_in HN.out (p := p) (List.mem_append_left _ hp))
  have hinb := Lib.hid (fun (p : Int × Int) (hp : p ∈ fmtB N) => fmt_in HN.out (p := p) (List.mem_append_right _ hp))
  generalize fmtA = fa at hF hla hina ⊢
  generalize fmtB (N : Int) = fb at hF hle hinb ⊢
  generalize stdW V = wl at hA hlw hw01 ⊢
  generalize fword 5 15 1335 V = F at HS hA hfv
  have HA := Lib.hid hA
  have HF := Lib.hid hF
  have HO := Lib.hid (ho.keep ((Below.refl w.heap.size w).alloc (Nat.le_refl _) (.cells #[.int .i64 (N : Int), .int .i64 (N : Int), .slice (some ⟨g, 0, none⟩) (N * N) cp] 28)))
  have HL := Lib.hid hl
  clear hF hA hN hV ho hl
  go_enter Try.func64, Try.ntmps64
  go_wp2_with fail
  (go_at_call 76; go_call (iStd_any _) as e1 w1 ⟨rfl, hb1⟩; obtain ⟨hc1, hf1⟩ := bcell hb1; have hB1 : Below w.heap.size w w1 := (below_then (by first | (go_grown; done) | (repeat (first | (with_reducible assumption) | (with_reducible exact Below.refl _ _) | (with_reducible refine below_drewN' ?_ _) | (with_reducible refine Below.drew ?_) | ((with_reducible refine Below.alloc ?_ ?_ _); rotate_left; focus (first | (simp; done) | (simp; omega) | omega)) | ((with_reducible refine Below.setCell ?_ ?_ _); rotate_left; focus (first | (simp; done) | (simp; omega) | omega))))) (by first | omega | (simp; done) | (simp; omega)) hb1); have hz1a : w.heap.size < w1.heap.size := (by have := hb1.size; first | omega | (simp at this; omega)))
  have HX1 := Lib.hid (blk_below (heap_alloc_new w (.cells #[.int .i64 (N : Int), .int .i64 (N : Int), .slice (some ⟨g, 0, none⟩) (N * N) cp] 28)) hb1 (by simp))
  have HO1 := Lib.hid (HO.out.keep hb1)
  have hs1 := hb1.size
  simp only [World.size_alloc] at hs1
  clear hc1 hf1
  go_wp2_with fail
  (go_at_call 91; with_reducible refine (HS.out _).mono ?_; rintro e2 w2 ⟨rfl, hb2⟩; obtain ⟨hc2, hf2⟩ := bcell hb2; have hB2 : Below w.heap.size w w2 := (below_then (by first | (go_grown; done) | (repeat (first | (with_reducible assumption) | (with_reducible exact Below.refl _ _) | (with_reducible refine below_drewN' ?_ _) | (with_reducible refine Below.drew ?_) | ((with_reducible refine Below.alloc ?_ ?_ _); rotate_left; focus (first | (simp; done) | (simp; omega) | omega)) | ((with_reducible refine Below.setCell ?_ ?_ _); rotate_left; focus (first | (simp; done) | (simp; omega) | omega))))) (by first | omega | (simp; done) | (simp; omega)) hb2))
  have hs2 := hb2.size
  clear hc2 hf2
  go_wp2_with fail
  have hfd : ∀ w, (Instr.field 76 (.agg #[.int .i64 5, .int .i64 15, .int .i64 1335]) 1).run Try.prog w = .ok (.int .i64 15) w := fun _ => by kernel_rfl
  (go_at_call 76; go_call (iStd_any _) as e3 w3 ⟨rfl, hb3⟩; obtain ⟨hc3, hf3⟩ := bcell hb3; have hB3 : Below w.heap.size w w3 := (below_then (by first | (go_grown; done) | (repeat (first | (with_reducible assumption) | (with_reducible exact Below.refl _ _) | (with_reducible refine below_drewN' ?_ _) | (with_reducible refine Below.drew ?_) | ((with_reducible refine Below.alloc ?_ ?_ _); rotate_left; focus (first | (simp; done) | (simp; omega) | omega)) | ((with_reducible refine Below.setCell ?_ ?_ _); rotate_left; focus (first | (simp; done) | (simp; omega) | omega))))) (by first | omega | (simp; done) | (simp; omega)) hb3))
  have hs3 := hb3.size
  clear hc3 hf3
  go_wp2_with fail
  (go_at_call 90; with_reducible refine (HA.out _).mono ?_; rintro e4 w4 ⟨v4, rfl, ho4, hb4⟩; obtain ⟨hc4, hf4⟩ := bcell hb4; have hB4 : Below w.heap.size w w4 := (below_then (by first | (go_grown; done) | (repeat (first | (with_reducible assumption) | (with_reducible exact Below.refl _ _) | (with_reducible refine below_drewN' ?_ _) | (with_reducible refine Below.drew ?_) | ((with_reducible refine Below.alloc ?_ ?_ _); rotate_left; focus (first | (simp; done) | (simp; omega) | omega)) | ((with_reducible refine Below.setCell ?_ ?_ _); rotate_left; focus (first | (simp; done) | (simp; omega) | omega))))) (by first | omega | (simp; done) | (simp; omega)) hb4))
  have hs4 := hb4.size
  obtain ⟨g3, c3, rfl, hgB3, hgw3, -, -⟩ := ho4.row (by rw [hlw.out]; decide)
  rw [hlw.out] at ho4 ⊢
  have HO34 := Lib.hid ho4
  have HX4 := Lib.hid (blk_below (blk_below (blk_below HX1.out hb2 (by omega)) hb3 (by omega)) hb4 (by omega))
  have HO4 := Lib.hid (((HO1.out.keep hb2).keep hb3).keep hb4)
  clear hc4 hf4 ho4
  obtain ⟨y0, y1, y2, -⟩ := blk3 HX4.out
  go_wp2_with fail
  (go_at_call 68; with_reducible refine (HF.out _).mono ?_; rintro e5 w5 ⟨v4, v5, rfl, hT, hb5⟩; obtain ⟨hc5, hf5⟩ := bcell hb5; have hB5 : Below w.heap.size w w5 := (below_then (by first | (go_grown; done) | (repeat (first | (with_reducible assumption) | (with_reducible exact Below.refl _ _) | (with_reducible refine below_drewN' ?_ _) | (with_reducible refine Below.drew ?_) | ((with_reducible refine Below.alloc ?_ ?_ _); rotate_left; focus (first | (simp; done) | (simp; omega) | omega)) | ((with_reducible refine Below.setCell ?_ ?_ _); rotate_left; focus (first | (simp; done) | (simp; omega) | omega))))) (by first | omega | (simp; done) | (simp; omega)) hb5))
  have hs5 := hb5.size
  obtain ⟨g4, c4, rfl, hgB4, hgw4, -⟩ := hT.1.cells (by rw [hla.out]; decide)
  obtain ⟨g5, c5, rfl, hgB5, hgw5, -⟩ := hT.2.1.cells (by rw [hle.out]; decide)
  rw [hla.out, hle.out] at hT ⊢
  have HT := Lib.hid hT
  have HX5 := Lib.hid (blk_below HX4.out hb5 (by omega))
  have HO5 := Lib.hid (HO4.out.keep hb5)
  have HO35 := Lib.hid (HO34.out.keep hb5)
  have HB5 := Lib.hid hB5
  clear y0 y1 y2 hc5 hf5 hT
  go_wp2_with fail
  go_loopw [7, 8, 23] (fun q1 q2 q wr => ∃ i : Nat, i ≤ 15 ∧ q = .int .i64 i ∧ Hid (Own wr B (.slice (some ⟨g, 0, none⟩) (N * N) cp) (put1 N fa fb wl xs i)) ∧ Hid (w5.grownBy wr (some g)))
    (fun _ _ q _ => 15 - (intOf q).toNat)
  case atStart => exact ⟨0, Nat.zero_le _, rfl, HO5, Lib.hid (World.grownBy.refl _ _)⟩
  case round =>
    obtain ⟨i, hi, rfl, hown, hgr⟩ := hrel
    have hsr := hgr.out.size
    by_cases hlt : i < 15
    · have hP1 := Lib.hid (put1_len N fa fb wl xs i)
      have hPL : Hid ((put1 N fa fb wl xs i).length = N * N) := Lib.hid (by rw [hP1.out, HL.out])
      have hst := (show put1 N fa fb wl xs (i + 1) = ((put1 N fa fb wl xs i).set (idxP N (nthP fa i)) (nth wl i)).set (idxP N (nthP fb i)) (nth wl i) from rfl)
      have hra := hina.out _ (nthP_mem (ps := fa) (k := i) (by rw [hla.out]; exact hlt))
      have hrb := hinb.out _ (nthP_mem (ps := fb) (k := i) (by rw [hle.out]; exact hlt))
      obtain ⟨p0, p1⟩ := OwnP.cellsNe HT.out.1 hla.out (by omega) hgr.out (fun e => by have : g4 = g := Option.some.inj e; omega) i hlt
      have wc := Own.cellsNe HO35.out hlw.out hgr.out (fun e => by have : g3 = g := Option.some.inj e; omega) i hlt
      obtain ⟨y0, y1, y2, -⟩ := blk3 ((hgr.out.block w.heap.size (by omega) (fun e => by have : w.heap.size = g := Option.some.inj e; omega)).trans HX5.out)
      generalize nthP fa i = pa at p0 p1 hra hst
      obtain ⟨pb, hpbe⟩ : ∃ pb, nthP fb i = pb := ⟨_, rfl⟩
      rw [hpbe] at hrb hst
      have hwx := hw01.out i
      obtain ⟨x, hxe⟩ : ∃ x, nth wl i = x := ⟨_, rfl⟩
      rw [hxe] at wc hst hwx
      obtain ⟨a1, a2⟩ := pa
      obtain ⟨b1, b2⟩ := pb
      simp only at p0 p1 hra hrb
      obtain ⟨A1, rfl⟩ := Int.eq_ofNat_of_zero_le hra.1
      obtain ⟨A2, rfl⟩ := Int.eq_ofNat_of_zero_le hra.2.1
      obtain ⟨B1, rfl⟩ := Int.eq_ofNat_of_zero_le hrb.1
      obtain ⟨B2, rfl⟩ := Int.eq_ofNat_of_zero_le hrb.2.1
      have hpbe := Lib.hid hpbe
      have hst := Lib.hid hst
      have ea : A1 * N + A2 < N * N := cell_lt (by omega) (by omega)
      have eb : B1 * N + B2 < N * N := cell_lt (by omega) (by omega)
      have hia : Hid (idxP N ((A1 : Int), (A2 : Int)) = A1 * N + A2) := Lib.hid (by unfold idxP; simp; rw [show ((A1 : Int) * N + A2) = ((A1 * N + A2 : Nat) : Int) by simp, Int.toNat_natCast])
      have hib : Hid (idxP N ((B1 : Int), (B2 : Int)) = B1 * N + B2) := Lib.hid (by unfold idxP; simp; rw [show ((B1 : Int) * N + B2) = ((B1 * N + B2 : Nat) : Int) by simp, Int.toNat_natCast])
      have hbl0 : w.heap.size < wr.heap.size := by omega
      have hbl4 : g4 < wr.heap.size := by omega
      go_wp2_with fail
      refine wp_region_qat [] 6 [] (by kernel_rfl) (by kernel_rfl) ?_
      intro hbc
      simp only [List.take_succ_cons, List.take_zero, List.drop_succ_cons, List.drop_zero]
      repeat (first
        | refine wpQ_pass rfl ?_
        | (refine wpQ_step rfl (fun K hK => ?_)
           go_simp
           first
             | (refine hK _ ?_; clear hK K)))
      refine wpQ_nil ⟨?_, ?_⟩
      · exact rfl
      intro  w6 hb6 hF6
      clear hbc
      obtain ⟨hc6, hf6⟩ := bcell hb6
      clear hF6
      try simp only [Act.put, List.setIfInBounds_toArray, List.set_cons_succ, List.set_cons_zero]
      have ho6 := Lib.hid (hown.out.keep hb6)
      have hs6 := hb6.size
      clear hc6 hf6 p0 p1 y0 y1 y2 wc
      go_wp2_with (go_at_call 85; with_reducible refine (set_any (N : Int) N A1 A2 x g cp (N * N) (A1 * N + A2) _ _ B ho6.out hPL.out (by omega) (by simp) ea ⟨by omega, by omega⟩ (by omega)).mono ?_; rintro e7 w7 ⟨rfl, ho7', hg7⟩)
      have ho7 := Lib.hid ho7'
      have hs7 := hg7.size
      have hg57 := Lib.hid (show w5.grownBy w7 (some g) from ⟨hg7.os.trans (hb6.os.trans hgr.out.os), hg7.tape.trans (hb6.tape.trans hgr.out.tape), hg7.output.trans (hb6.output.trans hgr.out.output), by omega, fun k hk hne => (hg7.block k (by omega) hne).trans ((hb6.block k (by omega)).trans (hgr.out.block k hk hne))⟩)
      have hPL2 : Hid (((put1 N fa fb wl xs i).set (A1 * N + A2) x).length = N * N) := Lib.hid (by rw [List.length_set]; exact hPL.out)
      clear ho7' hg7
      obtain ⟨q0, q1⟩ := OwnP.cellsNe HT.out.2.1 hle.out (by omega) hg57.out (fun e => by have : g5 = g := Option.some.inj e; omega) i hlt
      rw [hpbe.out] at q0 q1
      simp only at q0 q1
      obtain ⟨y0, y1, y2, -⟩ := blk3 ((hg57.out.block w.heap.size (by omega) (fun e => by have : w.heap.size = g := Option.some.inj e; omega)).trans HX5.out)
      have hbl0' : w.heap.size < w7.heap.size := by omega
      have hbl5' : g5 < w7.heap.size := by omega
      go_wp2_with fail
      refine wp_region_qat [] 6 [] (by kernel_rfl) (by kernel_rfl) ?_
      intro hbc
      simp only [List.take_succ_cons, List.take_zero, List.drop_succ_cons, List.drop_zero]
      repeat (first
        | refine wpQ_pass rfl ?_
        | (refine wpQ_step rfl (fun K hK => ?_)
           go_simp
           first
             | (refine hK _ ?_; clear hK K)))
      refine wpQ_nil ⟨?_, ?_⟩
      · exact rfl
      intro  w8 hb8 hF8
      clear hbc
      obtain ⟨hc8, hf8⟩ := bcell hb8
      clear hF8
      try simp only [Act.put, List.setIfInBounds_toArray, List.set_cons_succ, List.set_cons_zero]
      have ho8 := Lib.hid (ho7.out.keep hb8)
      have hs8 := hb8.size
      clear hc8 hf8 q0 q1 y0 y1 y2
      go_wp2_with (go_at_call 85; with_reducible refine (set_any (N : Int) N B1 B2 x g cp (N * N) (B1 * N + B2) _ _ B ho8.out hPL2.out (by omega) (by simp) eb ⟨by omega, by omega⟩ (by omega)).mono ?_; rintro e9 w9 ⟨rfl, ho9', hg9⟩)
      have ho9 := Lib.hid ho9'
      have hg59 := Lib.hid (show w5.grownBy w9 (some g) from ⟨hg9.os.trans (hb8.os.trans hg57.out.os), hg9.tape.trans (hb8.tape.trans hg57.out.tape), hg9.output.trans (hb8.output.trans hg57.out.output), by have := hg9.size; omega, fun k hk hne => (hg9.block k (by omega) hne).trans ((hb8.block k (by omega)).trans (hg57.out.block k hk hne))⟩)
      clear ho9' hg9
      go_wp2_with fail
      go_roundw
      case rel => refine ⟨i + 1, by omega, by go_num, ?_⟩; first | exact ⟨Lib.hid (by rw [hst.out, hia.out, hib.out]; exact ho9.out), hg59⟩ | exact Lib.hid (by rw [hst.out, hia.out, hib.out]; exact ho9.out)
      case measure => simp [intOf]; omega
    · obtain rfl : i = 15 := by omega
      go_wp2_with fail
      go_returns
      exact ⟨rfl, hown.out, ⟨hgr.out.os.trans HB5.out.os, hgr.out.tape.trans HB5.out.tape, hgr.out.output.trans HB5.out.output, by omega, fun k hk hne => (hgr.out.block k (by omega) hne).trans (HB5.out.block k hk)⟩⟩
set_option maxHeartbeats 2000000 in
theorem gridCopy_any (r c : Int) (b o n cp : Nat) (xs : List Int) (w : World) (B : Nat) (hr : RI w B (some ⟨b, o, none⟩) n xs) (hB : B ≤ w.heap.size) (hn0 : 0 < n) (hn : n ≤ 1000000) :
    Calls Try.prog 63 #[.agg #[.int .i64 r, .int .i64 c, .slice (some ⟨b, o, none⟩) n cp]] w fun e w' => ∃ v', e = .returned (.agg #[.int .i64 r, .int .i64 c, v']) ∧ Own w' w.heap.size v' xs ∧ Below w.heap.size w w' := by
  have HR := Lib.hid (hr.more hB)
  clear hr
  have hX0 : ((w.alloc (.cells #[.int .i64 r, .int .i64 c, .slice (some ⟨b, o, none⟩) n cp] 28)).alloc (.cells #[.int .i64 0, .int .i64 0, .slice none 0 0] 28)).heap[w.heap.size]? = some (.cells #[.int .i64 r, .int .i64 c, .slice (some ⟨b, o, none⟩) n cp] 28 (0, 0)) := by (repeat (first | (with_reducible exact heap_alloc_new _ _) | (rw [heap_drew1]) | (rw [heap_drewN1]) | (rw [Below.heap_setCell _ _ _ _ (by first | omega | (simp; done) | (simp; omega))]) | (rw [Below.heap_alloc _ _ _ (by first | omega | (simp; done) | (simp; omega))]) | (exact heap_alloc_at (by first | omega | (simp; done) | (simp; omega)))))
  have hZ0 : ((w.alloc (.cells #[.int .i64 r, .int .i64 c, .slice (some ⟨b, o, none⟩) n cp] 28)).alloc (.cells #[.int .i64 0, .int .i64 0, .slice none 0 0] 28)).heap[w.heap.size + 1]? = some (.cells #[.int .i64 0, .int .i64 0, .slice none 0 0] 28 (0, 0)) := by (repeat (first | (with_reducible exact heap_alloc_new _ _) | (rw [heap_drew1]) | (rw [heap_drewN1]) | (rw [Below.heap_setCell _ _ _ _ (by first | omega | (simp; done) | (simp; omega))]) | (rw [Below.heap_alloc _ _ _ (by first | omega | (simp; done) | (simp; omega))]) | (exact heap_alloc_at (by first | omega | (simp; done) | (simp; omega)))))
  have HX0 := Lib.hid hX0
  have HZ0 := Lib.hid hZ0
  clear hX0 hZ0
  have n01 : w.heap.size ≠ w.heap.size + 1 := by omega
  go_enter Try.func63, Try.ntmps63
  go_wp2_with fail
  obtain ⟨y0, y1, y2, -⟩ := blk3 HX0.out
  go_region_held3 (fun w' => w'.cell? ⟨w.heap.size, 0, none⟩ = some (.int .i64 r) ∧ w'.cell? ⟨w.heap.size, 1, none⟩ = some (.int .i64 c) ∧ w'.cell? ⟨w.heap.size, 2, none⟩ = some (.slice (some ⟨b, o, none⟩) n cp))
    (first | (exact ⟨y0, y1, y2⟩) | (exact ⟨q0, q1, q2⟩) | (obtain ⟨q0, q1, q2, -⟩ := blk3 (blk_other (c := w.heap.size + 1) (k := 2) (u := .slice A1 xs.length c1) (blk_other (c := w.heap.size + 1) (k := 1) (u := .int .i64 c) (blk_other (c := w.heap.size + 1) (k := 0) (u := .int .i64 r) HX1.out n01) n01) n01); exact ⟨q0, q1, q2⟩) | go_keep)
    (((go_at_call 89; go_call (copyOf_any b o n cp xs _ _ (HR.out.below (by (repeat (first | (with_reducible assumption) | (with_reducible exact Below.refl _ _) | (with_reducible refine below_drewN' ?_ _) | (with_reducible refine Below.drew ?_) | ((with_reducible refine Below.alloc ?_ ?_ _); rotate_left; focus (first | (simp; done) | (simp; omega) | omega)) | ((with_reducible refine Below.setCell ?_ ?_ _); rotate_left; focus (first | (simp; done) | (simp; omega) | omega)))))) hn0 hn) as e1 w1 ⟨v1, rfl, ho1, hb1⟩; obtain ⟨hc1, hf1⟩ := bcell hb1; have hB1 : Below w.heap.size w w1 := (below_then (by first | (go_grown; done) | (repeat (first | (with_reducible assumption) | (with_reducible exact Below.refl _ _) | (with_reducible refine below_drewN' ?_ _) | (with_reducible refine Below.drew ?_) | ((with_reducible refine Below.alloc ?_ ?_ _); rotate_left; focus (first | (simp; done) | (simp; omega) | omega)) | ((with_reducible refine Below.setCell ?_ ?_ _); rotate_left; focus (first | (simp; done) | (simp; omega) | omega))))) (by first | omega | (simp; done) | (simp; omega)) hb1); have hz1a : w.heap.size < w1.heap.size := (by have := hb1.size; first | omega | (simp at this; omega)); have hz1b : w.heap.size + 1 < w1.heap.size := (by have := hb1.size; first | omega | (simp at this; omega)))
      obtain ⟨A1, c1, rfl, -⟩ := ho1.shape
      have HX1 := Lib.hid (blk_below (o := some (.cells #[.int .i64 r, .int .i64 c, .slice (some ⟨b, o, none⟩) n cp] 28 (0, 0))) (by (repeat (first | (with_reducible exact HX0.out) | (with_reducible exact heap_alloc_new _ _) | (rw [heap_drew1]) | (rw [heap_drewN1]) | (rw [Below.heap_setCell _ _ _ _ (by first | omega | (simp; done) | (simp; omega))]) | (rw [Below.heap_alloc _ _ _ (by first | omega | (simp; done) | (simp; omega))]) | (exact heap_alloc_at (by first | omega | (simp; done) | (simp; omega)))))) hb1 (by simp; omega))
      have HZ1 := Lib.hid (blk_below (o := some (.cells #[.int .i64 0, .int .i64 0, .slice none 0 0] 28 (0, 0))) (by (repeat (first | (with_reducible exact HZ0.out) | (with_reducible exact heap_alloc_new _ _) | (rw [heap_drew1]) | (rw [heap_drewN1]) | (rw [Below.heap_setCell _ _ _ _ (by first | omega | (simp; done) | (simp; omega))]) | (rw [Below.heap_alloc _ _ _ (by first | omega | (simp; done) | (simp; omega))]) | (exact heap_alloc_at (by first | omega | (simp; done) | (simp; omega)))))) hb1 (by simp))
      obtain ⟨q0, q1, q2, -⟩ := blk3 HX1.out
      obtain ⟨z0, z1, z2, zf⟩ := blk3 HZ1.out))
  go_wp2_with fail
  obtain ⟨s0, s1, s2⟩ := res3 HZ1.out (.int .i64 r) (.int .i64 c) (.slice A1 xs.length c1)
  have HO := Lib.hid (ho1.more (B' := w.heap.size + 1 + 1) (by simp))
  (try simp only [Exit.inBlock, Exit.then]); refine bodyPost_ret (by simp [results, Try.results63, go_sem, s0, s1, s2]; try rfl) rfl ?_
  exact ⟨_, rfl, ((((HO.out.setLt (p := ⟨w.heap.size + 1, 0, none⟩) (Nat.lt_succ_self _) _).setLt (p := ⟨w.heap.size + 1, 1, none⟩) (Nat.lt_succ_self _) _).setLt (p := ⟨w.heap.size + 1, 2, none⟩) (Nat.lt_succ_self _) _)).more (by omega),
    ((hB1.setCell (Nat.le_succ _) _).setCell (Nat.le_succ _) _).setCell (Nat.le_succ _) _⟩
end Go.Proofs.Ytgokleeofcleiaa
