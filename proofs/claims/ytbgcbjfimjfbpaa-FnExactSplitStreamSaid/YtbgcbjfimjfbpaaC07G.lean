/-
  Contract of chapter 7: impl.StreamDamage.
-/
import Derived.Test.YtbgcbjfimjfbpaaC07E
namespace Go.Proofs.Ytbgcbjfimjfbpaa
set_option linter.unusedSimpArgs false
open Go.RowKit

def mkB (N : Nat) (dm er : List Int) : Bool := risB 0 ((N : Int) - 1) dm && risB 0 ((N : Int) - 1) er
def sdR (p k g data chk cnt : Int) (dm er : List Int) : Bool × Int :=
  bif layB p k g data chk cnt then (bif mkB (data.toNat + cnt.toNat * chk.toNat) dm er then (sdB data.toNat cnt.toNat chk.toNat dm er, 0) else (false, 5)) else (false, 1)
theorem ret_pairB {a b : Bool × Int} (h : a = b) : Ending.returned (.tuple #[.bool a.1, .int .i64 a.2]) = .returned (.tuple #[.bool b.1, .int .i64 b.2]) := by rw [h]
/-- What the marking of the weights carries. -/
structure SdS (w wr : World) (gW : Nat) (p k g : Int) (D H C : Nat) (L : List Int) : Prop where
  lay : LayAt wr w.heap.size p k g D H C
  row : RowAt wr gW 2 L
  bel : Below w.heap.size w wr
theorem SdS.set {w wr : World} {gW j : Nat} {p k g u : Int} {D H C : Nat} {L : List Int} (h : SdS w wr gW p k g D H C L) (hg : w.heap.size < gW) : SdS w (wr.setCell ⟨gW, j, none⟩ (.int .i64 u)) gW p k g D H C (L.set j u) :=
  ⟨box_other h.lay h.row (by decide), h.row.set u, h.bel.setCell (p := ⟨gW, j, none⟩) (Nat.le_of_lt hg) _⟩
theorem SdS.to {w wr : World} {gW : Nat} {p k g : Int} {D H C : Nat} {L L' : List Int} (h : SdS w wr gW p k g D H C L) (e : L = L') : SdS w wr gW p k g D H C L' := e ▸ h

set_option maxRecDepth 100000 in
set_option maxHeartbeats 8000000 in
theorem StreamDamage_any (p k g data chk cnt : Int) (A1 A2 : Option Addr) (n1 n2 c1 c2 : Nat) (dm er : List Int) (w : World) (hr1 : RI w w.heap.size A1 n1 dm) (hr2 : RI w w.heap.size A2 n2 er) (hn1 : n1 ≤ 2000000) (hn2 : n2 ≤ 2000000) :
    Calls Try.prog 34 #[.agg #[.int .i64 p, .int .i64 k, .int .i64 g, .int .i64 data, .int .i64 chk, .int .i64 cnt], .slice A1 n1 c1, .slice A2 n2 c2] w fun e w' =>
      e = .returned (.tuple #[.bool (sdR p k g data chk cnt dm er).1, .int .i64 (sdR p k g data chk cnt dm er).2]) ∧ Below w.heap.size w w' := by
  have HI := Lib.hid (fun w => IsLayout_any p k g data chk cnt w)
  cases hl : layB p k g data chk cnt
  · have HF : Hid (sdR p k g data chk cnt dm er = (false, 1)) := Lib.hid (by unfold sdR; rw [hl]; rfl)
    rw [hl] at HI
    clear hl
    go_enter Try.func34, Try.ntmps34
    go_wp2_with (go_at_call 25; with_reducible refine (HI.out _).mono ?_; rintro e1 w1 ⟨rfl, hb1⟩; obtain ⟨hc1, hf1⟩ := bcell hb1; have hB1 : Below w.heap.size w w1 := (below_then (by first | (go_grown; done) | (repeat (first | (with_reducible assumption) | (with_reducible exact Below.refl _ _) | (with_reducible refine below_drewN' ?_ _) | (with_reducible refine Below.drew ?_) | ((with_reducible refine Below.alloc ?_ ?_ _); rotate_left; focus (first | (simp; done) | (simp; omega) | omega)) | ((with_reducible refine Below.setCell ?_ ?_ _); rotate_left; focus (first | (simp; done) | (simp; omega) | omega))))) (by first | omega | (simp; done) | (simp; omega)) hb1); have hz1a : w.heap.size < w1.heap.size := (by have := hb1.size; first | omega | (simp at this; omega)))
    go_returns
    exact ⟨by rw [HF.out]; rfl, by (repeat (first | (with_reducible assumption) | (with_reducible exact Below.refl _ _) | (with_reducible refine below_drewN' ?_ _) | (with_reducible refine Below.drew ?_) | ((with_reducible refine Below.alloc ?_ ?_ _); rotate_left; focus (first | (simp; done) | (simp; omega) | omega)) | ((with_reducible refine Below.setCell ?_ ?_ _); rotate_left; focus (first | (simp; done) | (simp; omega) | omega))))⟩
  · rw [hl] at HI
    obtain ⟨D, C, H, rfl, rfl, rfl, hC, hC2, hCD, hD, hH0, hH, hN15, hfl⟩ := layB_true hl
    have HRES : Hid (sdR p k g D H C dm er = bif mkB (D + C * H) dm er then (sdB D C H dm er, 0) else (false, 5)) := Lib.hid (by unfold sdR; rw [hl]; simp)
    have HT := Lib.hid (fun w => total_any p k g D H C w hC2 hD hH)
    have HSP := Lib.hid (fun (gW cp : Nat) (xs : List Int) (W : World) hr => split_any p k g D C H hC hC2 hCD hD hH0 hH (some ⟨gW, 0, none⟩) (D + C * H) cp xs W hr rfl)
    have HWA := Lib.hid (fun h1 h2 b => wd_all (D := D) (H := H) hC (dm := dm) (er := er) h1 h2 b)
    have HNO := Lib.hid (fun b => sdB_no (D := D) (C := C) (H := H) (b := b) (dm := dm) (er := er))
    have HYS := Lib.hid (fun k => sdB_yes (D := D) (C := C) (H := H) (k := k) (dm := dm) (er := er))
    clear hfl hl
    generalize D + C * H = N at *
    have HR1 := Lib.hid (fun w' (hb : Below w.heap.size w w') => rises_any 0 ((N : Int) - 1) A1 n1 c1 dm w' w.heap.size (hr1.below hb) (by omega))
    have HR2 := Lib.hid (fun w' (hb : Below w.heap.size w w') => rises_any 0 ((N : Int) - 1) A2 n2 c2 er w' w.heap.size (hr2.below hb) (by omega))
    have HL1 := Lib.hid hr1.len
    have HL2 := Lib.hid hr2.len
    have HRI1 := Lib.hid hr1
    have HRI2 := Lib.hid hr2
    clear hr1 hr2
    cases h1 : risB 0 ((N : Int) - 1) dm
    · have HF : Hid (sdR p k g D H C dm er = (false, 5)) := Lib.hid (by rw [HRES.out]; unfold mkB; rw [h1]; rfl)
      rw [h1] at HR1
      clear h1
      go_enter Try.func34, Try.ntmps34
      go_wp2_with first | (go_at_call 25; with_reducible refine (HI.out _).mono ?_; rintro e1 w1 ⟨rfl, hb1⟩; obtain ⟨hc1, hf1⟩ := bcell hb1; have hB1 : Below w.heap.size w w1 := (below_then (by first | (go_grown; done) | (repeat (first | (with_reducible assumption) | (with_reducible exact Below.refl _ _) | (with_reducible refine below_drewN' ?_ _) | (with_reducible refine Below.drew ?_) | ((with_reducible refine Below.alloc ?_ ?_ _); rotate_left; focus (first | (simp; done) | (simp; omega) | omega)) | ((with_reducible refine Below.setCell ?_ ?_ _); rotate_left; focus (first | (simp; done) | (simp; omega) | omega))))) (by first | omega | (simp; done) | (simp; omega)) hb1); have hz1a : w.heap.size < w1.heap.size := (by have := hb1.size; first | omega | (simp at this; omega))) | (go_at_call 72; with_reducible refine (HT.out _).mono ?_; rintro e2 w2 ⟨rfl, hb2⟩; obtain ⟨hc2, hf2⟩ := bcell hb2; have hB2 : Below w.heap.size w w2 := (below_then (by first | (go_grown; done) | (repeat (first | (with_reducible assumption) | (with_reducible exact Below.refl _ _) | (with_reducible refine below_drewN' ?_ _) | (with_reducible refine Below.drew ?_) | ((with_reducible refine Below.alloc ?_ ?_ _); rotate_left; focus (first | (simp; done) | (simp; omega) | omega)) | ((with_reducible refine Below.setCell ?_ ?_ _); rotate_left; focus (first | (simp; done) | (simp; omega) | omega))))) (by first | omega | (simp; done) | (simp; omega)) hb2); have hz2a : w.heap.size < w2.heap.size := (by have := hb2.size; first | omega | (simp at this; omega))) | (go_at_call 61; with_reducible refine (HR1.out _ (by (repeat (first | (with_reducible assumption) | (with_reducible exact Below.refl _ _) | (with_reducible refine below_drewN' ?_ _) | (with_reducible refine Below.drew ?_) | ((with_reducible refine Below.alloc ?_ ?_ _); rotate_left; focus (first | (simp; done) | (simp; omega) | omega)) | ((with_reducible refine Below.setCell ?_ ?_ _); rotate_left; focus (first | (simp; done) | (simp; omega) | omega)))))).mono ?_; rintro e w' ⟨rfl, rfl⟩)
      go_returns
      exact ⟨by rw [HF.out]; rfl, by (repeat (first | (with_reducible assumption) | (with_reducible exact Below.refl _ _) | (with_reducible refine below_drewN' ?_ _) | (with_reducible refine Below.drew ?_) | ((with_reducible refine Below.alloc ?_ ?_ _); rotate_left; focus (first | (simp; done) | (simp; omega) | omega)) | ((with_reducible refine Below.setCell ?_ ?_ _); rotate_left; focus (first | (simp; done) | (simp; omega) | omega))))⟩
    · rw [h1] at HR1
      cases h2 : risB 0 ((N : Int) - 1) er
      · have HF : Hid (sdR p k g D H C dm er = (false, 5)) := Lib.hid (by rw [HRES.out]; unfold mkB; rw [h1, h2]; rfl)
        rw [h2] at HR2
        clear h1 h2
        go_enter Try.func34, Try.ntmps34
        go_wp2_with first | (go_at_call 25; with_reducible refine (HI.out _).mono ?_; rintro e1 w1 ⟨rfl, hb1⟩; obtain ⟨hc1, hf1⟩ := bcell hb1; have hB1 : Below w.heap.size w w1 := (below_then (by first | (go_grown; done) | (repeat (first | (with_reducible assumption) | (with_reducible exact Below.refl _ _) | (with_reducible refine below_drewN' ?_ _) | (with_reducible refine Below.drew ?_) | ((with_reducible refine Below.alloc ?_ ?_ _); rotate_left; focus (first | (simp; done) | (simp; omega) | omega)) | ((with_reducible refine Below.setCell ?_ ?_ _); rotate_left; focus (first | (simp; done) | (simp; omega) | omega))))) (by first | omega | (simp; done) | (simp; omega)) hb1); have hz1a : w.heap.size < w1.heap.size := (by have := hb1.size; first | omega | (simp at this; omega))) | (go_at_call 72; with_reducible refine (HT.out _).mono ?_; rintro e2 w2 ⟨rfl, hb2⟩; obtain ⟨hc2, hf2⟩ := bcell hb2; have hB2 : Below w.heap.size w w2 := (below_then (by first | (go_grown; done) | (repeat (first | (with_reducible assumption) | (with_reducible exact Below.refl _ _) | (with_reducible refine below_drewN' ?_ _) | (with_reducible refine Below.drew ?_) | ((with_reducible refine Below.alloc ?_ ?_ _); rotate_left; focus (first | (simp; done) | (simp; omega) | omega)) | ((with_reducible refine Below.setCell ?_ ?_ _); rotate_left; focus (first | (simp; done) | (simp; omega) | omega))))) (by first | omega | (simp; done) | (simp; omega)) hb2); have hz2a : w.heap.size < w2.heap.size := (by have := hb2.size; first | omega | (simp at this; omega))) | (go_at_call 61; with_reducible refine (HR1.out _ (by (repeat (first | (with_reducible assumption) | (with_reducible exact Below.refl _ _) | (with_reducible refine below_drewN' ?_ _) | (with_reducible refine Below.drew ?_) | ((with_reducible refine Below.alloc ?_ ?_ _); rotate_left; focus (first | (simp; done) | (simp; omega) | omega)) | ((with_reducible refine Below.setCell ?_ ?_ _); rotate_left; focus (first | (simp; done) | (simp; omega) | omega)))))).mono ?_; rintro e w' ⟨rfl, rfl⟩) | (go_at_call 61; with_reducible refine (HR2.out _ (by (repeat (first | (with_reducible assumption) | (with_reducible exact Below.refl _ _) | (with_reducible refine below_drewN' ?_ _) | (with_reducible refine Below.drew ?_) | ((with_reducible refine Below.alloc ?_ ?_ _); rotate_left; focus (first | (simp; done) | (simp; omega) | omega)) | ((with_reducible refine Below.setCell ?_ ?_ _); rotate_left; focus (first | (simp; done) | (simp; omega) | omega)))))).mono ?_; rintro e w' ⟨rfl, rfl⟩)
        go_returns
        exact ⟨by rw [HF.out]; rfl, by (repeat (first | (with_reducible assumption) | (with_reducible exact Below.refl _ _) | (with_reducible refine below_drewN' ?_ _) | (with_reducible refine Below.drew ?_) | ((with_reducible refine Below.alloc ?_ ?_ _); rotate_left; focus (first | (simp; done) | (simp; omega) | omega)) | ((with_reducible refine Below.setCell ?_ ?_ _); rotate_left; focus (first | (simp; done) | (simp; omega) | omega))))⟩
      · have HF : Hid (sdR p k g D H C dm er = (sdB D C H dm er, 0)) := Lib.hid (by rw [HRES.out]; unfold mkB; rw [h1, h2]; rfl)
        have HY1 := Lib.hid (fun j (hj : j < dm.length) => risB_in h1 hj)
        have HY2 := Lib.hid (fun j (hj : j < er.length) => risB_in h2 hj)
        have HWB := Lib.hid (HWA.out (fun j hj => (HY1.out j hj).1) (fun j hj => (HY2.out j hj).1))
        have HRG := Lib.hid (fun b i => wdL_range (D := D) (C := C) (H := H) (N := N) (fun j hj => (HY1.out j hj).1) (fun j hj => (HY2.out j hj).1) b i)
        rw [h2] at HR2
        clear h1 h2 HRES HWA
        obtain ⟨i0, hi⟩ := info_own' info_i64s
        have HMI := Lib.hid (fun w => make_any (n := N) 24 2 i0 (.int .i64 0) Try.underlying24 hi.1 hi.2.1 hi.2.2.1 (by rw [hi.2.2.2]; omega) (by omega) rfl w)
        clear hi
        have hmi : ∀ w : World, (Instr.makeSlice 24 (.int .i64 N) (.int .i64 N)).run Try.prog w = .ok (.slice (some ⟨w.heap.size, 0, none⟩) N N) (w.alloc (.cells (Array.replicate N (.int .i64 0)) 2)) := fun w => by
          have h := HMI.out w
          rw [List.toArray_replicate] at h
          exact h
        go_enter Try.func34, Try.ntmps34
        go_wp2_with first | ((go_at_call 25; with_reducible refine (HI.out _).mono ?_; rintro e1 w1 ⟨rfl, hb1⟩; obtain ⟨hc1, hf1⟩ := bcell hb1; have hB1 : Below w.heap.size w w1 := (below_then (by first | (go_grown; done) | (repeat (first | (with_reducible assumption) | (with_reducible exact Below.refl _ _) | (with_reducible refine below_drewN' ?_ _) | (with_reducible refine Below.drew ?_) | ((with_reducible refine Below.alloc ?_ ?_ _); rotate_left; focus (first | (simp; done) | (simp; omega) | omega)) | ((with_reducible refine Below.setCell ?_ ?_ _); rotate_left; focus (first | (simp; done) | (simp; omega) | omega))))) (by first | omega | (simp; done) | (simp; omega)) hb1); have hz1a : w.heap.size < w1.heap.size := (by have := hb1.size; first | omega | (simp at this; omega))); have HLY : Hid (LayAt w1 w.heap.size p k g D H C) := Lib.hid (LayAt.below (heap_alloc_new w _) hb1)) | ((go_at_call 72; with_reducible refine (HT.out _).mono ?_; rintro e2 w2 ⟨rfl, hb2⟩; obtain ⟨hc2, hf2⟩ := bcell hb2; have hB2 : Below w.heap.size w w2 := (below_then (by first | (go_grown; done) | (repeat (first | (with_reducible assumption) | (with_reducible exact Below.refl _ _) | (with_reducible refine below_drewN' ?_ _) | (with_reducible refine Below.drew ?_) | ((with_reducible refine Below.alloc ?_ ?_ _); rotate_left; focus (first | (simp; done) | (simp; omega) | omega)) | ((with_reducible refine Below.setCell ?_ ?_ _); rotate_left; focus (first | (simp; done) | (simp; omega) | omega))))) (by first | omega | (simp; done) | (simp; omega)) hb2); have hz2a : w.heap.size < w2.heap.size := (by have := hb2.size; first | omega | (simp at this; omega))); have HLY := Lib.hid (HLY.out.below hb2)) | (go_at_call 61; with_reducible refine (HR1.out _ (by (repeat (first | (with_reducible assumption) | (with_reducible exact Below.refl _ _) | (with_reducible refine below_drewN' ?_ _) | (with_reducible refine Below.drew ?_) | ((with_reducible refine Below.alloc ?_ ?_ _); rotate_left; focus (first | (simp; done) | (simp; omega) | omega)) | ((with_reducible refine Below.setCell ?_ ?_ _); rotate_left; focus (first | (simp; done) | (simp; omega) | omega)))))).mono ?_; rintro e w' ⟨rfl, rfl⟩) | (go_at_call 61; with_reducible refine (HR2.out _ (by (repeat (first | (with_reducible assumption) | (with_reducible exact Below.refl _ _) | (with_reducible refine below_drewN' ?_ _) | (with_reducible refine Below.drew ?_) | ((with_reducible refine Below.alloc ?_ ?_ _); rotate_left; focus (first | (simp; done) | (simp; omega) | omega)) | ((with_reducible refine Below.setCell ?_ ?_ _); rotate_left; focus (first | (simp; done) | (simp; omega) | omega)))))).mono ?_; rintro e w' ⟨rfl, rfl⟩)
        have HS0 : Hid (SdS w (w2.alloc (.cells (Array.replicate N (.int .i64 0)) 2)) w2.heap.size p k g D H C (setAt 2 (List.replicate N 0) (dm.take 0))) := Lib.hid (by
          refine ⟨(Below.heap_alloc _ _ _ (lt_of_block HLY.out)).trans HLY.out, ?_, hB2.alloc hB2.size _⟩
          unfold RowAt
          rw [heap_alloc_new]; simp [setAt])
        have hgW : w.heap.size < w2.heap.size := hz2a
        obtain ⟨W0, hW0⟩ : ∃ W0, w2.alloc (.cells (Array.replicate N (.int .i64 0)) 2) = W0 := ⟨_, rfl⟩
        rw [hW0] at HS0 ⊢
        clear hW0 HLY hc2 hf2 hb2 hB2 hz2a hmi HMI
        generalize w2.heap.size = gW at *
        go_loopw [40] (fun i wr => ∃ j : Nat, j ≤ n1 ∧ i = .int .i64 j ∧ Hid (SdS w wr gW p k g D H C (setAt 2 (List.replicate N 0) (dm.take j)))) (fun i _ => n1 - (intOf i).toNat)
        case atStart => exact ⟨0, Nat.zero_le _, rfl, HS0⟩
        case round =>
          obtain ⟨j, hj, rfl, HS⟩ := hrel
          by_cases hlt : j < n1
          · obtain ⟨bx, ox, rfl, hbx, hcx⟩ := (HRI1.out.below HS.out.bel).cells (by omega)
            have hck := hcx j hlt
            obtain ⟨hy0, hy1⟩ := HY1.out j (by rw [HL1.out]; exact hlt)
            obtain ⟨Y, hY⟩ := Int.eq_ofNat_of_zero_le hy0
            rw [hY] at hck hy1
            have hYN : Y < N := by omega
            have hll : (setAt 2 (List.replicate N 0) (dm.take j)).length = N := by simp [setAt_len]
            have hcw := HS.out.row.cell (k := Y) (by rw [hll]; exact hYN)
            have hfw := HS.out.row.free Y
            have HNX : Hid ((setAt 2 (List.replicate N 0) (dm.take j)).set Y 2 = setAt 2 (List.replicate N 0) (dm.take (j + 1))) := Lib.hid (by rw [setAt_take (by rw [HL1.out]; exact hlt), hY]; rfl)
            generalize nth (setAt 2 (List.replicate N 0) (dm.take j)) Y = yv at hcw
            clear hcx hbx hy0 hy1 hY hll
            go_wp2_with fail
            go_roundw
            case rel => exact ⟨j + 1, by omega, by go_num, Lib.hid ((HS.out.set hgW).to HNX.out)⟩
            case measure => simp [intOf]; omega
          · have hjn : j = n1 := by omega
            have HS1 : Hid (SdS w wr gW p k g D H C (setAt 2 (List.replicate N 0) dm)) := Lib.hid (HS.out.to (by rw [hjn, List.take_of_length_le (by rw [HL1.out]; exact Nat.le_refl _)]))
            clear hjn HS
            go_wp2_with fail
            have HS2 : Hid (SdS w wr gW p k g D H C (setAt 1 (setAt 2 (List.replicate N 0) dm) (er.take 0))) := Lib.hid HS1.out
            clear HS1
            go_loopw [50] (fun i wr => ∃ j : Nat, j ≤ n2 ∧ i = .int .i64 j ∧ Hid (SdS w wr gW p k g D H C (setAt 1 (setAt 2 (List.replicate N 0) dm) (er.take j)))) (fun i _ => n2 - (intOf i).toNat)
            case atStart => exact ⟨0, Nat.zero_le _, rfl, HS2⟩
            case round =>
              obtain ⟨j, hj, rfl, HS⟩ := hrel
              by_cases hlt : j < n2
              · obtain ⟨bx, ox, rfl, hbx, hcx⟩ := (HRI2.out.below HS.out.bel).cells (by omega)
                have hck := hcx j hlt
                obtain ⟨hy0, hy1⟩ := HY2.out j (by rw [HL2.out]; exact hlt)
                obtain ⟨Y, hY⟩ := Int.eq_ofNat_of_zero_le hy0
                rw [hY] at hck hy1
                have hYN : Y < N := by omega
                have hll : (setAt 1 (setAt 2 (List.replicate N 0) dm) (er.take j)).length = N := by simp [setAt_len]
                have hcw := HS.out.row.cell (k := Y) (by rw [hll]; exact hYN)
                have hfw := HS.out.row.free Y
                have HNX : Hid ((setAt 1 (setAt 2 (List.replicate N 0) dm) (er.take j)).set Y 1 = setAt 1 (setAt 2 (List.replicate N 0) dm) (er.take (j + 1))) := Lib.hid (by rw [setAt_take (by rw [HL2.out]; exact hlt), hY]; rfl)
                generalize nth (setAt 1 (setAt 2 (List.replicate N 0) dm) (er.take j)) Y = yv at hcw
                clear hcx hbx hy0 hy1 hY hll
                go_wp2_with fail
                go_roundw
                case rel => exact ⟨j + 1, by omega, by go_num, Lib.hid ((HS.out.set hgW).to HNX.out)⟩
                case measure => simp [intOf]; omega
              · have hjn : j = n2 := by omega
                have HS3 : Hid (SdS w wr gW p k g D H C (setAt 1 (setAt 2 (List.replicate N 0) dm) er)) := Lib.hid (HS.out.to (by rw [hjn, List.take_of_length_le (by rw [HL2.out]; exact Nat.le_refl _)]))
                clear hjn HS

                obtain ⟨c0, c1, c2, c3, c4, c5⟩ := HS3.out.lay.cells
                have hWR : RI wr wr.heap.size (some ⟨gW, 0, none⟩) N (wtL dm er N) := HS3.out.row.RI HS3.out.row.lt (wtL_len _ _ _)
                go_wp2_with (go_at_call 81; refine (HSP.out gW N (wtL dm er N) _ hWR).mono ?_; rintro e5 w5 ⟨g0, rfl, hwd, hb5⟩; have HWD := Lib.hid hwd; have HB5 := Lib.hid (HS3.out.bel.trans (hb5.mono HS3.out.bel.size)); have HL5 := Lib.hid (HS3.out.lay.below hb5); clear hwd hb5)
                clear HS3 hWR HRI1 HRI2 HR1 HR2 HY1 HY2 HL1 HL2
                obtain ⟨c0, c1, c2, c3, c4, c5⟩ := HL5.out.cells
                have hWL := fun b => wdL_len D C H (wtL dm er N) b
                have HWLN := Lib.hid hWL
                clear hWL
                generalize wdL D C H (wtL dm er N) = wv at *
                generalize smN D C H (wtN dm er) N = sm at *
                go_loop [62] (fun i => ∃ b : Nat, b ≤ C ∧ i = .int .i64 b ∧ Hid (∀ b', b' < b → sm b' ≤ (H : Int))) (fun i => C - (intOf i).toNat)
                case atStart => exact ⟨0, Nat.zero_le _, rfl, Lib.hid (fun _ h => absurd h (by omega))⟩
                case round =>
                  obtain ⟨b, hb, rfl, HLE⟩ := hrel
                  by_cases hlt3 : b < C
                  · obtain ⟨gb, -, -, hcb, hce, -, -, -⟩ := HWD.out.look hlt3
                    have hql := HWLN.out b
                    rw [hql] at hcb hce
                    have hq0 := (show shN D C b ≤ 1501 from by have := Nat.div_le_self D C; unfold shN; split <;> omega)
                    obtain ⟨q, hq⟩ : ∃ q, shN D C b + H = q := ⟨_, rfl⟩
                    rw [hq] at hcb hce hql
                    have hq1 : q ≤ 2000 := by omega
                    have HCE := Lib.hid hce
                    have HQL := Lib.hid hql
                    clear hce hql hq hq0
                    go_wp2_with fail
                    go_loop [15, 68] (fun s i => ∃ m : Nat, m ≤ q ∧ i = .int .i64 m ∧ s = .int .i64 (sumL ((wv b).take m))) (fun _ i => q - (intOf i).toNat)
                    case atStart => exact ⟨0, Nat.zero_le _, rfl, rfl⟩
                    case round =>
                      obtain ⟨m, hm, rfl, rfl⟩ := hrel
                      have hsr := sumL_range (xs := wv b) (fun i _ => HRG.out b i) m (by rw [HQL.out]; exact hm)
                      by_cases hlt4 : m < q
                      · have hcm := HCE.out m hlt4
                        have hxr := HRG.out b m
                        have HSN := Lib.hid (sumL_take (xs := wv b) (k := m) (by rw [HQL.out]; exact hlt4))
                        obtain ⟨s0, hs0⟩ : ∃ s0, sumL ((wv b).take m) = s0 := ⟨_, rfl⟩
                        rw [hs0] at hsr ⊢
                        rw [hs0] at HSN
                        generalize nth (wv b) m = x at *
                        clear hs0
                        go_wp2_with fail
                        go_round
                        case rel => exact ⟨m + 1, by omega, by go_num, by rw [HSN.out]⟩
                        case measure => simp [intOf]; omega
                      · have hmq : m = q := by omega
                        have hs0 : sumL ((wv b).take m) = sm b := by rw [hmq, List.take_of_length_le (by rw [HQL.out]; exact Nat.le_refl _), HWB.out b]
                        rw [hs0] at hsr ⊢
                        clear hs0 hmq
                        by_cases hgt : (H : Int) < sm b
                        · have HE := Lib.hid (HNO.out b hlt3 hgt)
                          have hd : decide ((H : Int) < sm b) = true := decide_eq_true hgt
                          clear hgt
                          generalize sm b = sb at *
                          go_wp2_with fail
                          go_returns
                          exact ⟨by rw [HF.out, HE.out]; rfl, HB5.out⟩
                        · have hd : decide ((H : Int) < sm b) = false := decide_eq_false hgt
                          have HLE2 : Hid (∀ b', b' < b + 1 → sm b' ≤ (H : Int)) := Lib.hid (fun b' hb' => by
                            rcases Nat.lt_or_ge b' b with h | h
                            · exact HLE.out b' h
                            · obtain rfl : b = b' := by omega
                              omega)
                          clear hgt
                          generalize hsb : sm b = sb at hd hsr ⊢
                          clear hsb
                          go_wp2_with fail
                          go_round
                          case rel => exact ⟨b + 1, by omega, by go_num, HLE2⟩
                          case measure => simp [intOf]; omega
                  · have HE := Lib.hid (HYS.out b (by omega) HLE.out)
                    go_wp2_with fail
                    go_returns
                    exact ⟨by rw [HF.out, HE.out]; rfl, HB5.out⟩
end Go.Proofs.Ytbgcbjfimjfbpaa
