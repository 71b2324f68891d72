/-
  Contract of chapter 7: spec.StreamDamage.
-/
import Derived.Test.YtbgcbjfimjfbpaaC07G
namespace Go.Proofs.Ytbgcbjfimjfbpaa
set_option linter.unusedSimpArgs false
open Go.RowKit

theorem smL_nth {C b : Nat} {f : Nat → Int} (h : b < C) : nth ((List.range C).map f) b = f b := by
  rw [nth_lt (by simpa using h)]; simp
theorem smL_step {D C H i : Nat} {f : Nat → Int} : ((List.range C).map (smN D C H f i)).set (ordN D C H i).1 (smN D C H f i (ordN D C H i).1 + f i) = (List.range C).map (smN D C H f (i + 1)) := by
  apply List.ext_getElem?
  intro b
  rw [List.getElem?_set]
  simp only [List.getElem?_map]
  by_cases h1 : (ordN D C H i).1 = b
  · rw [if_pos h1]
    by_cases h2 : (ordN D C H i).1 < C
    · rw [if_pos (by simpa using h2)]
      have h3 : b < C := by omega
      simp [h3, smN, h1]
    · rw [if_neg (by simpa using h2)]
      have h3 : ¬ b < C := by omega
      simp [h3]
  · rw [if_neg h1]
    by_cases h3 : b < C
    · simp [h3, smN, h1]
    · simp [h3]
theorem smL_same {D C H i : Nat} {f : Nat → Int} (h : f i = 0) : (List.range C).map (smN D C H f i) = (List.range C).map (smN D C H f (i + 1)) := by
  apply List.map_congr_left
  intro b _
  show _ = smN D C H f i b + _
  rw [h]; simp
/-- What the summing carries. -/
structure SmS (w4 wr : World) (gS : Nat) (L : List Int) : Prop where
  row : RowAt wr gS 2 L
  bel : Below w4.heap.size w4 wr
theorem SmS.set {w4 wr : World} {gS j : Nat} {u : Int} {L : List Int} (h : SmS w4 wr gS L) (hg : w4.heap.size ≤ gS) : SmS w4 (wr.setCell ⟨gS, j, none⟩ (.int .i64 u)) gS (L.set j u) :=
  ⟨h.row.set u, h.bel.setCell (p := ⟨gS, j, none⟩) hg _⟩
theorem SmS.to {w4 wr : World} {gS : Nat} {L L' : List Int} (h : SmS w4 wr gS L) (e : L = L') : SmS w4 wr gS L' := e ▸ h
theorem SmS.keep {w4 wr w' : World} {gS : Nat} {L : List Int} (h : SmS w4 wr gS L) (hb : Below wr.heap.size wr w') : SmS w4 w' gS L :=
  ⟨h.row.below hb h.row.lt, h.bel.trans (hb.mono h.bel.size)⟩

set_option maxRecDepth 100000 in
set_option maxHeartbeats 8000000 in
theorem sStreamDamage_any (p k g data chk cnt : Int) (A1 A2 : Option Addr) (n1 n2 c1 c2 : Nat) (dm er : List Int) (w : World) (hr1 : RI w w.heap.size A1 n1 dm) (hr2 : RI w w.heap.size A2 n2 er) (hn1 : n1 ≤ 2000000) (hn2 : n2 ≤ 2000000) :
    Calls Try.prog 32 #[.agg #[.int .i64 p, .int .i64 k, .int .i64 g, .int .i64 data, .int .i64 chk, .int .i64 cnt], .slice A1 n1 c1, .slice A2 n2 c2] w fun e w' =>
      e = .returned (.tuple #[.bool (sdR p k g data chk cnt dm er).1, .int .i64 (sdR p k g data chk cnt dm er).2]) ∧ Below w.heap.size w w' := by
  have HI := Lib.hid (fun w => sIsLayout_any p k g data chk cnt w)
  cases hl : layB p k g data chk cnt
  · have HF : Hid (sdR p k g data chk cnt dm er = (false, 1)) := Lib.hid (by unfold sdR; rw [hl]; rfl)
    rw [hl] at HI
    clear hl
    go_enter Try.func32, Try.ntmps32
    go_wp2_with (go_at_call 49; with_reducible refine (HI.out _).mono ?_; rintro e1 w1 ⟨rfl, hb1⟩; obtain ⟨hc1, hf1⟩ := bcell hb1; have hB1 : Below w.heap.size w w1 := (below_then (by first | (go_grown; done) | (repeat (first | (with_reducible assumption) | (with_reducible exact Below.refl _ _) | (with_reducible refine below_drewN' ?_ _) | (with_reducible refine Below.drew ?_) | ((with_reducible refine Below.alloc ?_ ?_ _); rotate_left; focus (first | (simp; done) | (simp; omega) | omega)) | ((with_reducible refine Below.setCell ?_ ?_ _); rotate_left; focus (first | (simp; done) | (simp; omega) | omega))))) (by first | omega | (simp; done) | (simp; omega)) hb1); have hz1a : w.heap.size < w1.heap.size := (by have := hb1.size; first | omega | (simp at this; omega)))
    go_returns
    exact ⟨by rw [HF.out]; rfl, by (repeat (first | (with_reducible assumption) | (with_reducible exact Below.refl _ _) | (with_reducible refine below_drewN' ?_ _) | (with_reducible refine Below.drew ?_) | ((with_reducible refine Below.alloc ?_ ?_ _); rotate_left; focus (first | (simp; done) | (simp; omega) | omega)) | ((with_reducible refine Below.setCell ?_ ?_ _); rotate_left; focus (first | (simp; done) | (simp; omega) | omega))))⟩
  · rw [hl] at HI
    obtain ⟨D, C, H, rfl, rfl, rfl, hC, hC2, hCD, hD, hH0, hH, hN15, hfl⟩ := layB_true hl
    have HRES : Hid (sdR p k g D H C dm er = bif mkB (D + C * H) dm er then (sdB D C H dm er, 0) else (false, 5)) := Lib.hid (by unfold sdR; rw [hl]; simp)
    have HT := Lib.hid (fun w => l07Total_any p k g D H C w hC2 hD hH)
    have HO := Lib.hid (fun w => l07Order_any p k g D C H hC hC2 hD hH w)
    have HOL := Lib.hid (ordL_len (D := D) H hC)
    have HON := Lib.hid (fun k => ordN_in (D := D) (C := C) (H := H) (k := k) hC)
    have HNO := Lib.hid (fun b => sdB_no (D := D) (C := C) (H := H) (b := b) (dm := dm) (er := er))
    have HYS := Lib.hid (fun k => sdB_yes (D := D) (C := C) (H := H) (k := k) (dm := dm) (er := er))
    clear hfl hl
    generalize D + C * H = N at *
    have HR1 := Lib.hid (fun w' (hb : Below w.heap.size w w') => l07Marks_any N A1 n1 c1 dm w' w.heap.size (hr1.below hb) (by omega) (by omega))
    have HR2 := Lib.hid (fun w' (hb : Below w.heap.size w w') => l07Marks_any N A2 n2 c2 er w' w.heap.size (hr2.below hb) (by omega) (by omega))
    have HH1 := Lib.hid (fun (x : Int) w' (hb : Below w.heap.size w w') => l05Has_any x A1 n1 c1 dm w' w.heap.size (hr1.below hb) (by omega))
    have HH2 := Lib.hid (fun (x : Int) w' (hb : Below w.heap.size w w') => l05Has_any x A2 n2 c2 er w' w.heap.size (hr2.below hb) (by omega))
    clear hr1 hr2
    cases h1 : risB 0 ((N : Int) - 1) dm
    · have HF : Hid (sdR p k g D H C dm er = (false, 5)) := Lib.hid (by rw [HRES.out]; unfold mkB; rw [h1]; rfl)
      rw [h1] at HR1
      clear h1
      go_enter Try.func32, Try.ntmps32
      go_wp2_with first | (go_at_call 49; with_reducible refine (HI.out _).mono ?_; rintro e1 w1 ⟨rfl, hb1⟩; obtain ⟨hc1, hf1⟩ := bcell hb1; have hB1 : Below w.heap.size w w1 := (below_then (by first | (go_grown; done) | (repeat (first | (with_reducible assumption) | (with_reducible exact Below.refl _ _) | (with_reducible refine below_drewN' ?_ _) | (with_reducible refine Below.drew ?_) | ((with_reducible refine Below.alloc ?_ ?_ _); rotate_left; focus (first | (simp; done) | (simp; omega) | omega)) | ((with_reducible refine Below.setCell ?_ ?_ _); rotate_left; focus (first | (simp; done) | (simp; omega) | omega))))) (by first | omega | (simp; done) | (simp; omega)) hb1); have hz1a : w.heap.size < w1.heap.size := (by have := hb1.size; first | omega | (simp at this; omega))) | (go_at_call 78; with_reducible refine (HT.out _).mono ?_; rintro e2 w2 ⟨rfl, hb2⟩; obtain ⟨hc2, hf2⟩ := bcell hb2; have hB2 : Below w.heap.size w w2 := (below_then (by first | (go_grown; done) | (repeat (first | (with_reducible assumption) | (with_reducible exact Below.refl _ _) | (with_reducible refine below_drewN' ?_ _) | (with_reducible refine Below.drew ?_) | ((with_reducible refine Below.alloc ?_ ?_ _); rotate_left; focus (first | (simp; done) | (simp; omega) | omega)) | ((with_reducible refine Below.setCell ?_ ?_ _); rotate_left; focus (first | (simp; done) | (simp; omega) | omega))))) (by first | omega | (simp; done) | (simp; omega)) hb2); have hz2a : w.heap.size < w2.heap.size := (by have := hb2.size; first | omega | (simp at this; omega))) | (go_at_call 77; with_reducible refine (HR1.out _ (by (repeat (first | (with_reducible assumption) | (with_reducible exact Below.refl _ _) | (with_reducible refine below_drewN' ?_ _) | (with_reducible refine Below.drew ?_) | ((with_reducible refine Below.alloc ?_ ?_ _); rotate_left; focus (first | (simp; done) | (simp; omega) | omega)) | ((with_reducible refine Below.setCell ?_ ?_ _); rotate_left; focus (first | (simp; done) | (simp; omega) | omega)))))).mono ?_; rintro e3 w3 ⟨rfl, hb3⟩; obtain ⟨hc3, hf3⟩ := bcell hb3; have hB3 : Below w.heap.size w w3 := (below_then (by (repeat (first | (with_reducible assumption) | (with_reducible exact Below.refl _ _) | (with_reducible refine below_drewN' ?_ _) | (with_reducible refine Below.drew ?_) | ((with_reducible refine Below.alloc ?_ ?_ _); rotate_left; focus (first | (simp; done) | (simp; omega) | omega)) | ((with_reducible refine Below.setCell ?_ ?_ _); rotate_left; focus (first | (simp; done) | (simp; omega) | omega))))) (by first | omega | (simp; done) | (simp; omega)) hb3); have hz3a : w.heap.size < w3.heap.size := (by have := hb3.size; first | omega | (simp at this; omega)))
      go_returns
      exact ⟨by rw [HF.out]; rfl, by (repeat (first | (with_reducible assumption) | (with_reducible exact Below.refl _ _) | (with_reducible refine below_drewN' ?_ _) | (with_reducible refine Below.drew ?_) | ((with_reducible refine Below.alloc ?_ ?_ _); rotate_left; focus (first | (simp; done) | (simp; omega) | omega)) | ((with_reducible refine Below.setCell ?_ ?_ _); rotate_left; focus (first | (simp; done) | (simp; omega) | omega))))⟩
    · rw [h1] at HR1
      cases h2 : risB 0 ((N : Int) - 1) er
      · have HF : Hid (sdR p k g D H C dm er = (false, 5)) := Lib.hid (by rw [HRES.out]; unfold mkB; rw [h1, h2]; rfl)
        rw [h2] at HR2
        clear h1 h2
        go_enter Try.func32, Try.ntmps32
        go_wp2_with first | (go_at_call 49; with_reducible refine (HI.out _).mono ?_; rintro e1 w1 ⟨rfl, hb1⟩; obtain ⟨hc1, hf1⟩ := bcell hb1; have hB1 : Below w.heap.size w w1 := (below_then (by first | (go_grown; done) | (repeat (first | (with_reducible assumption) | (with_reducible exact Below.refl _ _) | (with_reducible refine below_drewN' ?_ _) | (with_reducible refine Below.drew ?_) | ((with_reducible refine Below.alloc ?_ ?_ _); rotate_left; focus (first | (simp; done) | (simp; omega) | omega)) | ((with_reducible refine Below.setCell ?_ ?_ _); rotate_left; focus (first | (simp; done) | (simp; omega) | omega))))) (by first | omega | (simp; done) | (simp; omega)) hb1); have hz1a : w.heap.size < w1.heap.size := (by have := hb1.size; first | omega | (simp at this; omega))) | (go_at_call 78; with_reducible refine (HT.out _).mono ?_; rintro e2 w2 ⟨rfl, hb2⟩; obtain ⟨hc2, hf2⟩ := bcell hb2; have hB2 : Below w.heap.size w w2 := (below_then (by first | (go_grown; done) | (repeat (first | (with_reducible assumption) | (with_reducible exact Below.refl _ _) | (with_reducible refine below_drewN' ?_ _) | (with_reducible refine Below.drew ?_) | ((with_reducible refine Below.alloc ?_ ?_ _); rotate_left; focus (first | (simp; done) | (simp; omega) | omega)) | ((with_reducible refine Below.setCell ?_ ?_ _); rotate_left; focus (first | (simp; done) | (simp; omega) | omega))))) (by first | omega | (simp; done) | (simp; omega)) hb2); have hz2a : w.heap.size < w2.heap.size := (by have := hb2.size; first | omega | (simp at this; omega))) | (go_at_call 77; with_reducible refine (HR1.out _ (by (repeat (first | (with_reducible assumption) | (with_reducible exact Below.refl _ _) | (with_reducible refine below_drewN' ?_ _) | (with_reducible refine Below.drew ?_) | ((with_reducible refine Below.alloc ?_ ?_ _); rotate_left; focus (first | (simp; done) | (simp; omega) | omega)) | ((with_reducible refine Below.setCell ?_ ?_ _); rotate_left; focus (first | (simp; done) | (simp; omega) | omega)))))).mono ?_; rintro e3 w3 ⟨rfl, hb3⟩; obtain ⟨hc3, hf3⟩ := bcell hb3; have hB3 : Below w.heap.size w w3 := (below_then (by (repeat (first | (with_reducible assumption) | (with_reducible exact Below.refl _ _) | (with_reducible refine below_drewN' ?_ _) | (with_reducible refine Below.drew ?_) | ((with_reducible refine Below.alloc ?_ ?_ _); rotate_left; focus (first | (simp; done) | (simp; omega) | omega)) | ((with_reducible refine Below.setCell ?_ ?_ _); rotate_left; focus (first | (simp; done) | (simp; omega) | omega))))) (by first | omega | (simp; done) | (simp; omega)) hb3); have hz3a : w.heap.size < w3.heap.size := (by have := hb3.size; first | omega | (simp at this; omega))) | (go_at_call 77; with_reducible refine (HR2.out _ (by (repeat (first | (with_reducible assumption) | (with_reducible exact Below.refl _ _) | (with_reducible refine below_drewN' ?_ _) | (with_reducible refine Below.drew ?_) | ((with_reducible refine Below.alloc ?_ ?_ _); rotate_left; focus (first | (simp; done) | (simp; omega) | omega)) | ((with_reducible refine Below.setCell ?_ ?_ _); rotate_left; focus (first | (simp; done) | (simp; omega) | omega)))))).mono ?_; rintro e3 w3 ⟨rfl, hb3⟩; obtain ⟨hc3, hf3⟩ := bcell hb3; have hB3 : Below w.heap.size w w3 := (below_then (by (repeat (first | (with_reducible assumption) | (with_reducible exact Below.refl _ _) | (with_reducible refine below_drewN' ?_ _) | (with_reducible refine Below.drew ?_) | ((with_reducible refine Below.alloc ?_ ?_ _); rotate_left; focus (first | (simp; done) | (simp; omega) | omega)) | ((with_reducible refine Below.setCell ?_ ?_ _); rotate_left; focus (first | (simp; done) | (simp; omega) | omega))))) (by first | omega | (simp; done) | (simp; omega)) hb3); have hz3a : w.heap.size < w3.heap.size := (by have := hb3.size; first | omega | (simp at this; omega)))
        go_returns
        exact ⟨by rw [HF.out]; rfl, by (repeat (first | (with_reducible assumption) | (with_reducible exact Below.refl _ _) | (with_reducible refine below_drewN' ?_ _) | (with_reducible refine Below.drew ?_) | ((with_reducible refine Below.alloc ?_ ?_ _); rotate_left; focus (first | (simp; done) | (simp; omega) | omega)) | ((with_reducible refine Below.setCell ?_ ?_ _); rotate_left; focus (first | (simp; done) | (simp; omega) | omega))))⟩
      · have HF : Hid (sdR p k g D H C dm er = (sdB D C H dm er, 0)) := Lib.hid (by rw [HRES.out]; unfold mkB; rw [h1, h2]; rfl)
        rw [h2] at HR2
        clear h1 h2 HRES
        obtain ⟨i0, hi⟩ := info_own' info_i64s
        have HMI := Lib.hid (fun w => make_any (n := C) 24 2 i0 (.int .i64 0) Try.underlying24 hi.1 hi.2.1 hi.2.2.1 (by rw [hi.2.2.2]; omega) (by omega) rfl w)
        clear hi
        have hmi : ∀ w : World, (Instr.makeSlice 24 (.int .i64 C) (.int .i64 C)).run Try.prog w = .ok (.slice (some ⟨w.heap.size, 0, none⟩) C C) (w.alloc (.cells (Array.replicate C (.int .i64 0)) 2)) := fun w => by
          have h := HMI.out w
          rw [List.toArray_replicate] at h
          exact h
        go_enter Try.func32, Try.ntmps32
        go_wp2_with first | ((go_at_call 49; with_reducible refine (HI.out _).mono ?_; rintro e1 w1 ⟨rfl, hb1⟩; obtain ⟨hc1, hf1⟩ := bcell hb1; have hB1 : Below w.heap.size w w1 := (below_then (by first | (go_grown; done) | (repeat (first | (with_reducible assumption) | (with_reducible exact Below.refl _ _) | (with_reducible refine below_drewN' ?_ _) | (with_reducible refine Below.drew ?_) | ((with_reducible refine Below.alloc ?_ ?_ _); rotate_left; focus (first | (simp; done) | (simp; omega) | omega)) | ((with_reducible refine Below.setCell ?_ ?_ _); rotate_left; focus (first | (simp; done) | (simp; omega) | omega))))) (by first | omega | (simp; done) | (simp; omega)) hb1); have hz1a : w.heap.size < w1.heap.size := (by have := hb1.size; first | omega | (simp at this; omega))); have HLY : Hid (LayAt w1 w.heap.size p k g D H C) := Lib.hid (LayAt.below (heap_alloc_new w _) hb1)) | ((go_at_call 78; with_reducible refine (HT.out _).mono ?_; rintro e2 w2 ⟨rfl, hb2⟩; obtain ⟨hc2, hf2⟩ := bcell hb2; have hB2 : Below w.heap.size w w2 := (below_then (by first | (go_grown; done) | (repeat (first | (with_reducible assumption) | (with_reducible exact Below.refl _ _) | (with_reducible refine below_drewN' ?_ _) | (with_reducible refine Below.drew ?_) | ((with_reducible refine Below.alloc ?_ ?_ _); rotate_left; focus (first | (simp; done) | (simp; omega) | omega)) | ((with_reducible refine Below.setCell ?_ ?_ _); rotate_left; focus (first | (simp; done) | (simp; omega) | omega))))) (by first | omega | (simp; done) | (simp; omega)) hb2); have hz2a : w.heap.size < w2.heap.size := (by have := hb2.size; first | omega | (simp at this; omega))); have HLY := Lib.hid (HLY.out.below hb2)) | (go_at_call 77; with_reducible refine (HR1.out _ (by (repeat (first | (with_reducible assumption) | (with_reducible exact Below.refl _ _) | (with_reducible refine below_drewN' ?_ _) | (with_reducible refine Below.drew ?_) | ((with_reducible refine Below.alloc ?_ ?_ _); rotate_left; focus (first | (simp; done) | (simp; omega) | omega)) | ((with_reducible refine Below.setCell ?_ ?_ _); rotate_left; focus (first | (simp; done) | (simp; omega) | omega)))))).mono ?_; rintro e3 w3 ⟨rfl, hb3⟩; obtain ⟨hc3, hf3⟩ := bcell hb3; have hB3 : Below w.heap.size w w3 := (below_then (by (repeat (first | (with_reducible assumption) | (with_reducible exact Below.refl _ _) | (with_reducible refine below_drewN' ?_ _) | (with_reducible refine Below.drew ?_) | ((with_reducible refine Below.alloc ?_ ?_ _); rotate_left; focus (first | (simp; done) | (simp; omega) | omega)) | ((with_reducible refine Below.setCell ?_ ?_ _); rotate_left; focus (first | (simp; done) | (simp; omega) | omega))))) (by first | omega | (simp; done) | (simp; omega)) hb3); have hz3a : w.heap.size < w3.heap.size := (by have := hb3.size; first | omega | (simp at this; omega)); have HLY := Lib.hid (HLY.out.below hb3)) | (go_at_call 77; with_reducible refine (HR2.out _ (by (repeat (first | (with_reducible assumption) | (with_reducible exact Below.refl _ _) | (with_reducible refine below_drewN' ?_ _) | (with_reducible refine Below.drew ?_) | ((with_reducible refine Below.alloc ?_ ?_ _); rotate_left; focus (first | (simp; done) | (simp; omega) | omega)) | ((with_reducible refine Below.setCell ?_ ?_ _); rotate_left; focus (first | (simp; done) | (simp; omega) | omega)))))).mono ?_; rintro e3 w3 ⟨rfl, hb3⟩; obtain ⟨hc3, hf3⟩ := bcell hb3; have hB3 : Below w.heap.size w w3 := (below_then (by (repeat (first | (with_reducible assumption) | (with_reducible exact Below.refl _ _) | (with_reducible refine below_drewN' ?_ _) | (with_reducible refine Below.drew ?_) | ((with_reducible refine Below.alloc ?_ ?_ _); rotate_left; focus (first | (simp; done) | (simp; omega) | omega)) | ((with_reducible refine Below.setCell ?_ ?_ _); rotate_left; focus (first | (simp; done) | (simp; omega) | omega))))) (by first | omega | (simp; done) | (simp; omega)) hb3); have hz3a : w.heap.size < w3.heap.size := (by have := hb3.size; first | omega | (simp at this; omega)); have HLY := Lib.hid (HLY.out.below hb3)) | (go_at_call 79; refine (HO.out _).mono ?_; rintro e4 w4 ⟨v, rfl, hprs, hb4⟩; have HLY := Lib.hid (HLY.out.below hb4); have HB4 : Hid (Below w.heap.size w w4) := Lib.hid (below_then (by (repeat (first | (with_reducible assumption) | (with_reducible exact Below.refl _ _) | (with_reducible refine below_drewN' ?_ _) | (with_reducible refine Below.drew ?_) | ((with_reducible refine Below.alloc ?_ ?_ _); rotate_left; focus (first | (simp; done) | (simp; omega) | omega)) | ((with_reducible refine Below.setCell ?_ ?_ _); rotate_left; focus (first | (simp; done) | (simp; omega) | omega))))) (by first | omega | (simp; done) | (simp; omega)) hb4); obtain ⟨VA, vc, rfl⟩ := hprs.shape; have HPR := Lib.hid hprs; clear hprs; rw [HOL.out] at HPR ⊢; obtain ⟨x40, x41, x42, x43, x44, x45⟩ := HLY.out.cells)
        have HS0 : Hid (SmS w4 (w4.alloc (.cells (Array.replicate C (.int .i64 0)) 2)) w4.heap.size ((List.range C).map (smN D C H (wtN dm er) 0))) := Lib.hid (by
          refine ⟨?_, (Below.refl _ _).alloc (Nat.le_refl _) _⟩
          unfold RowAt
          rw [heap_alloc_new]
          congr 2
          apply Array.ext'
          apply List.ext_getElem?
          intro j
          by_cases hj : j < C <;> simp [hj, smN])
        have hgS : w4.heap.size ≤ w4.heap.size := Nat.le_refl _
        obtain ⟨gS, hgSe⟩ : ∃ gS, w4.heap.size = gS := ⟨_, rfl⟩
        have hz4 : w.heap.size ≤ w4.heap.size := HB4.out.size
        have hgS2 : w4.heap.size ≤ gS := by omega
        obtain ⟨W0, hW0⟩ : ∃ W0, w4.alloc (.cells (Array.replicate C (.int .i64 0)) 2) = W0 := ⟨_, rfl⟩
        rw [hW0] at HS0 ⊢
        rw [hgSe] at HS0 ⊢
        clear hW0 hc2 hf2 hc3 hf3 hc1 hf1 hmi HMI hgS hgSe x40 x41 x42 x43 x44 x45 HR1 HR2
        go_loopw [10] (fun i wr => ∃ i' : Nat, i' ≤ N ∧ i = .int .i64 i' ∧ Hid (SmS w4 wr gS ((List.range C).map (smN D C H (wtN dm er) i')))) (fun i _ => N - (intOf i).toNat)
        case atStart => exact ⟨0, Nat.zero_le _, rfl, HS0⟩
        case round =>
          obtain ⟨i, hi, rfl, HS⟩ := hrel
          by_cases hlt : i < N
          · obtain ⟨go, gi, rfl, hgo, hgi, hco, hp0, hp1⟩ := (HPR.out.keep HS.out.bel).look (i := i) (by rw [HOL.out]; exact hlt)
            have hbC := (HON.out i hlt).1
            replace hp0 : wr.cell? ⟨gi, 0, none⟩ = some (.int .i64 ((ordN D C H i).1 : Nat)) := hp0
            have HSTEP := Lib.hid (fun v (h : wtN dm er i = v) => (by rw [← h]; exact smL_step : ((List.range C).map (smN D C H (wtN dm er) i)).set (ordN D C H i).1 (smN D C H (wtN dm er) i (ordN D C H i).1 + v) = (List.range C).map (smN D C H (wtN dm er) (i + 1))))
            have HSAME := Lib.hid (fun h => smL_same (D := D) (C := C) (H := H) (i := i) (f := wtN dm er) h)
            have hsr := smN_range (D := D) (C := C) (H := H) (wtN_range dm er) i (ordN D C H i).1
            have hcs := HS.out.row.cell (k := (ordN D C H i).1) (by simpa using hbC)
            rw [smL_nth hbC] at hcs
            have hfs := HS.out.row.free (ordN D C H i).1
            have HBW := Lib.hid (HB4.out.trans (HS.out.bel.mono hz4))
            have HWT : Hid (wtN dm er i = if hasB i er then 1 else if hasB i dm then 2 else 0) := Lib.hid rfl
            obtain ⟨bb, hbb⟩ : ∃ bb, (ordN D C H i).1 = bb := ⟨_, rfl⟩
            rw [hbb] at hp0 hbC HSTEP hsr hcs hfs
            generalize smN D C H (wtN dm er) i bb = s0 at *
            clear hbb hp1
            have hgl := HS.out.row.lt
            have HC1 := Lib.hid (fun w' (hb : Below w.heap.size w w') => HH1.out (i : Int) w' hb)
            have HC2 := Lib.hid (fun w' (hb : Below w.heap.size w w') => HH2.out (i : Int) w' hb)
            cases hE : hasB (i : Int) er
            · rw [hE] at HC2 HWT
              cases hD : hasB (i : Int) dm
              · rw [hD] at HC1 HWT
                clear hE hD
                go_wp2_with first | (go_at_call 80; with_reducible refine (HC2.out _ HBW.out).mono ?_; rintro e6 w6 ⟨rfl, rfl⟩) | (go_at_call 80; with_reducible refine (HC1.out _ HBW.out).mono ?_; rintro e6 w6 ⟨rfl, rfl⟩)
                go_roundw
                case rel => exact ⟨i + 1, by omega, by go_num, Lib.hid (HS.out.to (HSAME.out (by rw [HWT.out]; rfl)))⟩
                case measure => simp [intOf]; omega
              · rw [hD] at HC1 HWT
                clear hE hD
                go_wp2_with first | (go_at_call 80; with_reducible refine (HC2.out _ HBW.out).mono ?_; rintro e6 w6 ⟨rfl, rfl⟩) | (go_at_call 80; with_reducible refine (HC1.out _ HBW.out).mono ?_; rintro e6 w6 ⟨rfl, rfl⟩)
                have hBw := HBW.out
                refine wp_region_qat [] 18 [] (by kernel_rfl) (by kernel_rfl) ?_
                intro hbc
                simp only [List.take_succ_cons, List.take_zero, List.drop_succ_cons, List.drop_zero]
                repeat (first
                  | refine wpQ_pass rfl ?_
                  | (refine wpQ_step rfl (fun K hK => ?_)
                     go_simp
                     first
                       | (refine hK _ ?_; clear hK K)))
                refine wpQ_nil ⟨?_, ?_⟩
                · exact rfl
                intro  w5 hb5 hF5
                clear hbc
                obtain ⟨hc5, hf5⟩ := bcell hb5
                have hB5 : Below w.heap.size w w5 := below_then (by first | (go_grown; done) | (repeat (first | (with_reducible assumption) | (with_reducible exact Below.refl _ _) | (with_reducible refine below_drewN' ?_ _) | (with_reducible refine Below.drew ?_) | ((with_reducible refine Below.alloc ?_ ?_ _); rotate_left; focus (first | (simp; done) | (simp; omega) | omega)) | ((with_reducible refine Below.setCell ?_ ?_ _); rotate_left; focus (first | (simp; done) | (simp; omega) | omega))))) (by first | (simp; done) | (simp; omega) | omega) hb5
                have hz5a : w.heap.size < w5.heap.size := (by have := hb5.size; first | omega | (simp at this; omega))
                clear hF5
                try simp only [Act.put, List.setIfInBounds_toArray, List.set_cons_succ, List.set_cons_zero]
                have hcs5 := (hc5 _ bb hgl).trans hcs
                have hfs5 := (hf5 _ bb hgl).trans hfs
                clear hcs hfs hc5 hf5 hp0 hco
                go_wp2_with fail
                go_roundw
                case rel => exact ⟨i + 1, by omega, by go_num, Lib.hid (((HS.out.keep hb5).set hgS2).to (HSTEP.out 2 (by rw [HWT.out]; rfl)))⟩
                case measure => simp [intOf]; omega
            · rw [hE] at HC2 HWT
              clear hE
              go_wp2_with (go_at_call 80; with_reducible refine (HC2.out _ HBW.out).mono ?_; rintro e6 w6 ⟨rfl, rfl⟩)
              go_roundw
              case rel => exact ⟨i + 1, by omega, by go_num, Lib.hid ((HS.out.set hgS2).to (HSTEP.out 1 (by rw [HWT.out]; rfl)))⟩
              case measure => simp [intOf]; omega
          · have hiN : i = N := by omega
            have HS1 : Hid (SmS w4 wr gS ((List.range C).map (smN D C H (wtN dm er) N))) := Lib.hid (by rw [← hiN]; exact HS.out)
            have HSR := Lib.hid (fun b => smN_range (D := D) (C := C) (H := H) (wtN_range dm er) N b)
            have HCS := Lib.hid (fun b (hb : b < C) => by have h := HS1.out.row.cell (k := b) (by simpa using hb); rw [smL_nth hb] at h; exact h)
            clear hiN HS
            obtain ⟨c0, c1, c2, c3, c4, c5⟩ := (HLY.out.below HS1.out.bel).cells
            have hgl := HS1.out.row.lt
            have hwl := lt_of_block (HLY.out.below HS1.out.bel)
            have HBW := Lib.hid (HB4.out.trans (HS1.out.bel.mono hz4))
            generalize smN D C H (wtN dm er) N = sm at *
            clear hb1 hb2 hb3 hb4
            obtain ⟨W6, rfl⟩ : ∃ W6, W6 = wr := ⟨_, rfl⟩
            go_wp2_with fail
            go_loopw [11] (fun q wq => ∃ b : Nat, b ≤ C ∧ q = .int .i64 b ∧ Hid (∀ b', b' < b → sm b' ≤ (H : Int)) ∧ Hid (∃ m, wq = W6.drewN m)) (fun q _ => C - (intOf q).toNat)
            case atStart => exact ⟨0, Nat.zero_le _, rfl, Lib.hid (fun _ h => absurd h (by omega)), Lib.hid ⟨0, rfl⟩⟩
            case round =>
              obtain ⟨b, hb, rfl, HLE, hw⟩ := hrel
              by_cases hlt3 : b < C
              · obtain ⟨m, hm⟩ := hw.out
                have hcm : wr.cell? ⟨gS, b, none⟩ = some (.int .i64 (sm b)) := by rw [hm]; exact HCS.out b hlt3
                have hc4 : wr.cell? ⟨w.heap.size, 4, none⟩ = some (.int .i64 (H : Nat)) := by rw [hm]; exact c4
                have hsr := HSR.out b
                clear hm c0 c1 c2 c3 c4 c5
                by_cases hgt : (H : Int) < sm b
                · have HE := Lib.hid (HNO.out b hlt3 hgt)
                  have hd : decide ((H : Int) < sm b) = true := decide_eq_true hgt
                  clear hgt
                  generalize sm b = sb at *
                  go_wp2_with fail
                  go_quiet (fail)
                  go_wp2_with fail
                  go_returns
                  exact ⟨by rw [HF.out, HE.out]; rfl, by obtain ⟨m, hm⟩ := hw.out; rw [hm]; exact below_drewN' (below_drewN' HBW.out _) _⟩
                · have hd : decide ((H : Int) < sm b) = false := decide_eq_false hgt
                  have HLE2 : Hid (∀ b', b' < b + 1 → sm b' ≤ (H : Int)) := Lib.hid (fun b' hb' => by
                    rcases Nat.lt_or_ge b' b with h | h
                    · exact HLE.out b' h
                    · obtain rfl : b = b' := by omega
                      omega)
                  clear hgt
                  generalize hsb : sm b = sb at hd hsr hcm
                  clear hsb
                  go_wp2_with fail
                  go_quiet (fail)
                  go_wp2_with fail
                  go_roundw
                  case rel => exact ⟨b + 1, by omega, by go_num, HLE2, Lib.hid (by obtain ⟨m, hm⟩ := hw.out; exact ⟨m + nq, by rw [hm]; exact drewN_add5 W6 m nq⟩)⟩
                  case measure => simp [intOf]; omega
              · have HE := Lib.hid (HYS.out b (by omega) HLE.out)
                go_wp2_with fail
                go_returns
                exact ⟨by rw [HF.out, HE.out]; rfl, by obtain ⟨m, hm⟩ := hw.out; rw [hm]; exact below_drewN' HBW.out _⟩
end Go.Proofs.Ytbgcbjfimjfbpaa
