/-
  Contracts of chapter 15: TakeElements, the program and the reference.
-/
import Derived.Test.YteghpageamehkaaC15U
import Derived.Test.YteghpageamehkaaC14E
import Derived.Test.YteghpageamehkaaC15L
namespace Go.Proofs.Yteghpageamehkaa
set_option linter.unusedSimpArgs false
open Go.RowKit

def teC (r c : Int) (xs : List Int) (v : Int) : Int := bif sqB r c xs then (bif inR v 1 8 then 0 else 2) else 1
def teE (r c : Int) (xs : List Int) (v : Int) : List Int := bif sqB r c xs then (bif inR v 1 8 then elL (atL r.toNat xs (dataL r.toNat)) v.toNat ((dataL r.toNat).length / v.toNat) else []) else []
def teU (r c : Int) (xs : List Int) (v : Int) : List Int := bif sqB r c xs then (bif inR v 1 8 then unL (atL r.toNat xs (dataL r.toNat)) v.toNat ((dataL r.toNat).length / v.toNat) else []) else []
theorem te_le (r c : Int) (xs : List Int) (v : Int) : (teE r c xs v).length ≤ 1640 ∧ (teU r c xs v).length ≤ 1640 := by
  unfold teE teU
  cases hs : sqB r c xs
  · simp
  · obtain ⟨N, rfl, rfl, hN, hl, _⟩ := sqB_true hs
    cases inR v 1 8
    · simp
    · simp only [cond_true]
      have h1 := dataL_le hN.2.1
      have h2 := unL_len (atL (N : Int).toNat xs (dataL (N : Int).toNat)) v.toNat ((dataL (N : Int).toNat).length / v.toNat)
      have h3 := Nat.div_le_self (dataL (N : Int).toNat).length v.toNat
      rw [elL_len]
      simp only [Int.toNat_natCast] at h1 h2 h3 ⊢
      omega
theorem TwoI.nil (w : World) (B : Nat) : TwoI w B (.slice none 0 0) [] (.slice none 0 0) [] := ⟨Own.nil, Own.nil, fun k h => by simp [Value.ownBlock] at h⟩
set_option maxHeartbeats 4000000 in
theorem TakeElements_any (r c : Int) (A : Option Addr) (n cp : Nat) (xs : List Int) (v : Int) (w : World) (B : Nat) (hr : RI w B A n xs) (hB : B ≤ w.heap.size) (hn : n ≤ 1000000000000000) :
    Calls Try.prog 36 #[.agg #[.int .i64 r, .int .i64 c, .slice A n cp], .int .i64 v] w fun e w' =>
      ∃ u1 u2, e = .returned (.tuple #[u1, u2, .int .i64 (teC r c xs v)]) ∧ TwoI w' w.heap.size u1 (teE r c xs v) u2 (teU r c xs v) ∧ Below w.heap.size w w' := by
  have HR := Lib.hid (hr.more hB)
  have HC := Lib.hid (fun w' (hb : Below w.heap.size w w') => isMatrix_any r c A n cp xs w' w.heap.size (HR.out.below hb) hb.size hn)
  have hlen := hr.len
  clear hr
  unfold teC teE teU
  cases hs : sqB r c xs
  · rw [hs] at HC
    go_enter Try.func36, Try.ntmps36
    go_wp2_with (go_at_call 72; go_call (HC.out _ (by go_grown)) as e1 w1 ⟨rfl, hb1⟩; obtain ⟨hc1, hf1⟩ := bcell hb1; have hB1 : Below w.heap.size w w1 := (below_then (by first | (go_grown; done) | (repeat (first | (with_reducible assumption) | (with_reducible exact Below.refl _ _) | (with_reducible refine below_drewN' ?_ _) | (with_reducible refine Below.drew ?_) | ((with_reducible refine Below.alloc ?_ ?_ _); rotate_left; focus (first | (simp; done) | (simp; omega) | omega)) | ((with_reducible refine Below.setCell ?_ ?_ _); rotate_left; focus (first | (simp; done) | (simp; omega) | omega))))) (by first | omega | (simp; done) | (simp; omega)) hb1); have hz1a : w.heap.size < w1.heap.size := (by have := hb1.size; first | omega | (simp at this; omega)))
    first | go_ret | go_returns
    exact ⟨.slice none 0 0, .slice none 0 0, by simp, by simpa using TwoI.nil _ _, by (repeat (first | (with_reducible assumption) | (with_reducible exact Below.refl _ _) | (with_reducible refine below_drewN' ?_ _) | (with_reducible refine Below.drew ?_) | ((with_reducible refine Below.alloc ?_ ?_ _); rotate_left; focus (first | (simp; done) | (simp; omega) | omega)) | ((with_reducible refine Below.setCell ?_ ?_ _); rotate_left; focus (first | (simp; done) | (simp; omega) | omega))))⟩
  rw [hs] at HC
  cases hv : inR v 1 8
  · go_enter Try.func36, Try.ntmps36
    go_wp2_with first | (go_at_call 53; refine (inRange_any _ _ _ _).mono ?_; rintro e w' ⟨rfl, rfl⟩) | (go_at_call 72; go_call (HC.out _ (by go_grown)) as e1 w1 ⟨rfl, hb1⟩; obtain ⟨hc1, hf1⟩ := bcell hb1; have hB1 : Below w.heap.size w w1 := (below_then (by first | (go_grown; done) | (repeat (first | (with_reducible assumption) | (with_reducible exact Below.refl _ _) | (with_reducible refine below_drewN' ?_ _) | (with_reducible refine Below.drew ?_) | ((with_reducible refine Below.alloc ?_ ?_ _); rotate_left; focus (first | (simp; done) | (simp; omega) | omega)) | ((with_reducible refine Below.setCell ?_ ?_ _); rotate_left; focus (first | (simp; done) | (simp; omega) | omega))))) (by first | omega | (simp; done) | (simp; omega)) hb1); have hz1a : w.heap.size < w1.heap.size := (by have := hb1.size; first | omega | (simp at this; omega)))
    first | go_ret | go_returns
    exact ⟨.slice none 0 0, .slice none 0 0, by simp, by simpa using TwoI.nil _ _, by (repeat (first | (with_reducible assumption) | (with_reducible exact Below.refl _ _) | (with_reducible refine below_drewN' ?_ _) | (with_reducible refine Below.drew ?_) | ((with_reducible refine Below.alloc ?_ ?_ _); rotate_left; focus (first | (simp; done) | (simp; omega) | omega)) | ((with_reducible refine Below.setCell ?_ ?_ _); rotate_left; focus (first | (simp; done) | (simp; omega) | omega))))⟩
  · obtain ⟨N, rfl, rfl, hN, hl, hal⟩ := sqB_true hs
    have hvr := inR_true hv
    obtain ⟨V, rfl⟩ := Int.eq_ofNat_of_zero_le (show 0 ≤ v by omega)
    have hN0 : 0 < N * N := Nat.mul_pos (by omega) (by omega)
    have hnN : n = N * N := by omega
    subst hnN
    obtain ⟨b, o, rfl, -, -⟩ := HR.out.cells hN0
    have HT := Lib.hid (fun (w' : World) (hb : Below w.heap.size w w') => takeElements_any N b o cp V xs w' w.heap.size hN (by omega) (HR.out.below hb) hb.size hl hal)
    simp only [cond_true, Int.toNat_natCast]
    generalize elL (atL N xs (dataL N)) V ((dataL N).length / V) = L1 at HT ⊢
    generalize unL (atL N xs (dataL N)) V ((dataL N).length / V) = L2 at HT ⊢
    clear hal hl hlen hs
    go_enter Try.func36, Try.ntmps36
    go_wp2_with fail
    (go_at_call 72; go_call (HC.out _ (by go_grown)) as e1 w1 ⟨rfl, hb1⟩; obtain ⟨hc1, hf1⟩ := bcell hb1; have hB1 : Below w.heap.size w w1 := (below_then (by first | (go_grown; done) | (repeat (first | (with_reducible assumption) | (with_reducible exact Below.refl _ _) | (with_reducible refine below_drewN' ?_ _) | (with_reducible refine Below.drew ?_) | ((with_reducible refine Below.alloc ?_ ?_ _); rotate_left; focus (first | (simp; done) | (simp; omega) | omega)) | ((with_reducible refine Below.setCell ?_ ?_ _); rotate_left; focus (first | (simp; done) | (simp; omega) | omega))))) (by first | omega | (simp; done) | (simp; omega)) hb1); have hz1a : w.heap.size < w1.heap.size := (by have := hb1.size; first | omega | (simp at this; omega)))
    have HX1 := Lib.hid (blk_below (heap_alloc_new w (.cells #[.int .i64 (N : Int), .int .i64 (N : Int), .slice (some ⟨b, o, none⟩) (N * N) cp] 37)) hb1 (by simp))
    obtain ⟨y0, y1, y2, -⟩ := blk3 HX1.out
    clear hc1 hf1
    go_wp2_with (go_at_call 53; refine (inRange_any _ _ _ _).mono ?_; rintro e w' ⟨rfl, rfl⟩)
    go_at_call 73
    with_reducible refine (HT.out _ hB1).mono ?_
    rintro e2 w2 ⟨v1, v2, rfl, hT, hb2⟩
    have hB2 := hB1.trans (hb2.mono (by have := hb1.size; simp at this; omega))
    have HT2 := Lib.hid (hT.more (B' := w.heap.size) (by have := hb1.size; simp at this; omega))
    clear hT hb2
    go_wp2_with fail
    first | go_ret | go_returns
    exact ⟨_, _, rfl, HT2.out, hB2⟩
set_option maxHeartbeats 4000000 in
theorem sTakeElements_any (r c : Int) (A : Option Addr) (n cp : Nat) (xs : List Int) (v : Int) (w : World) (B : Nat) (hr : RI w B A n xs) (hB : B ≤ w.heap.size) (hn : n ≤ 1000000000000000) :
    Calls Try.prog 34 #[.agg #[.int .i64 r, .int .i64 c, .slice A n cp], .int .i64 v] w fun e w' =>
      ∃ u1 u2, e = .returned (.tuple #[u1, u2, .int .i64 (teC r c xs v)]) ∧ TwoI w' w.heap.size u1 (teE r c xs v) u2 (teU r c xs v) ∧ Below w.heap.size w w' := by
  have HR := Lib.hid (hr.more hB)
  have HC := Lib.hid (fun w' (hb : Below w.heap.size w w') => l14Square_any r c A n cp xs w' w.heap.size (HR.out.below hb) hb.size hn)
  have hlen := hr.len
  clear hr
  unfold teC teE teU
  cases hs : sqB r c xs
  · rw [hs] at HC
    go_enter Try.func34, Try.ntmps34
    go_wp2_with (go_at_call 70; go_call (HC.out _ (by go_grown)) as e1 w1 ⟨rfl, hb1⟩; obtain ⟨hc1, hf1⟩ := bcell hb1; have hB1 : Below w.heap.size w w1 := (below_then (by first | (go_grown; done) | (repeat (first | (with_reducible assumption) | (with_reducible exact Below.refl _ _) | (with_reducible refine below_drewN' ?_ _) | (with_reducible refine Below.drew ?_) | ((with_reducible refine Below.alloc ?_ ?_ _); rotate_left; focus (first | (simp; done) | (simp; omega) | omega)) | ((with_reducible refine Below.setCell ?_ ?_ _); rotate_left; focus (first | (simp; done) | (simp; omega) | omega))))) (by first | omega | (simp; done) | (simp; omega)) hb1); have hz1a : w.heap.size < w1.heap.size := (by have := hb1.size; first | omega | (simp at this; omega)))
    first | go_ret | go_returns
    exact ⟨.slice none 0 0, .slice none 0 0, by simp, by simpa using TwoI.nil _ _, by (repeat (first | (with_reducible assumption) | (with_reducible exact Below.refl _ _) | (with_reducible refine below_drewN' ?_ _) | (with_reducible refine Below.drew ?_) | ((with_reducible refine Below.alloc ?_ ?_ _); rotate_left; focus (first | (simp; done) | (simp; omega) | omega)) | ((with_reducible refine Below.setCell ?_ ?_ _); rotate_left; focus (first | (simp; done) | (simp; omega) | omega))))⟩
  rw [hs] at HC
  cases hv : inR v 1 8
  · go_enter Try.func34, Try.ntmps34
    go_wp2_with first | (go_at_call 56; refine (l15Width_any _ _).mono ?_; rintro e w' ⟨rfl, rfl⟩) | (go_at_call 70; go_call (HC.out _ (by go_grown)) as e1 w1 ⟨rfl, hb1⟩; obtain ⟨hc1, hf1⟩ := bcell hb1; have hB1 : Below w.heap.size w w1 := (below_then (by first | (go_grown; done) | (repeat (first | (with_reducible assumption) | (with_reducible exact Below.refl _ _) | (with_reducible refine below_drewN' ?_ _) | (with_reducible refine Below.drew ?_) | ((with_reducible refine Below.alloc ?_ ?_ _); rotate_left; focus (first | (simp; done) | (simp; omega) | omega)) | ((with_reducible refine Below.setCell ?_ ?_ _); rotate_left; focus (first | (simp; done) | (simp; omega) | omega))))) (by first | omega | (simp; done) | (simp; omega)) hb1); have hz1a : w.heap.size < w1.heap.size := (by have := hb1.size; first | omega | (simp at this; omega)))
    first | go_ret | go_returns
    exact ⟨.slice none 0 0, .slice none 0 0, by simp, by simpa using TwoI.nil _ _, by (repeat (first | (with_reducible assumption) | (with_reducible exact Below.refl _ _) | (with_reducible refine below_drewN' ?_ _) | (with_reducible refine Below.drew ?_) | ((with_reducible refine Below.alloc ?_ ?_ _); rotate_left; focus (first | (simp; done) | (simp; omega) | omega)) | ((with_reducible refine Below.setCell ?_ ?_ _); rotate_left; focus (first | (simp; done) | (simp; omega) | omega))))⟩
  · obtain ⟨N, rfl, rfl, hN, hl, hal⟩ := sqB_true hs
    have hvr := inR_true hv
    obtain ⟨V, rfl⟩ := Int.eq_ofNat_of_zero_le (show 0 ≤ v by omega)
    have hN0 : 0 < N * N := Nat.mul_pos (by omega) (by omega)
    have hnN : n = N * N := by omega
    subst hnN
    obtain ⟨b, o, rfl, -, -⟩ := HR.out.cells hN0
    have HT := Lib.hid (fun (w' : World) (hb : Below w.heap.size w w') => l15Take_any N b o cp V xs w' w.heap.size hN (by omega) (HR.out.below hb) hb.size hl hal)
    simp only [cond_true, Int.toNat_natCast]
    generalize elL (atL N xs (dataL N)) V ((dataL N).length / V) = L1 at HT ⊢
    generalize unL (atL N xs (dataL N)) V ((dataL N).length / V) = L2 at HT ⊢
    clear hal hl hlen hs
    go_enter Try.func34, Try.ntmps34
    go_wp2_with fail
    (go_at_call 70; go_call (HC.out _ (by go_grown)) as e1 w1 ⟨rfl, hb1⟩; obtain ⟨hc1, hf1⟩ := bcell hb1; have hB1 : Below w.heap.size w w1 := (below_then (by first | (go_grown; done) | (repeat (first | (with_reducible assumption) | (with_reducible exact Below.refl _ _) | (with_reducible refine below_drewN' ?_ _) | (with_reducible refine Below.drew ?_) | ((with_reducible refine Below.alloc ?_ ?_ _); rotate_left; focus (first | (simp; done) | (simp; omega) | omega)) | ((with_reducible refine Below.setCell ?_ ?_ _); rotate_left; focus (first | (simp; done) | (simp; omega) | omega))))) (by first | omega | (simp; done) | (simp; omega)) hb1); have hz1a : w.heap.size < w1.heap.size := (by have := hb1.size; first | omega | (simp at this; omega)))
    have HX1 := Lib.hid (blk_below (heap_alloc_new w (.cells #[.int .i64 (N : Int), .int .i64 (N : Int), .slice (some ⟨b, o, none⟩) (N * N) cp] 37)) hb1 (by simp))
    obtain ⟨y0, y1, y2, -⟩ := blk3 HX1.out
    clear hc1 hf1
    go_wp2_with (go_at_call 56; refine (l15Width_any _ _).mono ?_; rintro e w' ⟨rfl, rfl⟩)
    go_at_call 71
    with_reducible refine (HT.out _ hB1).mono ?_
    rintro e2 w2 ⟨v1, v2, rfl, hT, hb2⟩
    have hB2 := hB1.trans (hb2.mono (by have := hb1.size; simp at this; omega))
    have HT2 := Lib.hid (hT.more (B' := w.heap.size) (by have := hb1.size; simp at this; omega))
    clear hT hb2
    go_wp2_with fail
    first | go_ret | go_returns
    exact ⟨_, _, rfl, HT2.out, hB2⟩
end Go.Proofs.Yteghpageamehkaa
