/-
  Contracts of chapter 8, the program: NearestFormat, FormatShare.
-/
import Derived.Test.YtkdaodfhilhfgaaC08M
namespace Go.Proofs.Ytkdaodfhilhfgaa
open Go.RowKit

theorem below_blur {B : Nat} {w W : World} (h : Below B w W) (hB : B ≤ W.heap.size) (z : Blur W) : Below B w (blur z) := h.trans (z.below.mono hB)
theorem nearest_ok {d l p : Int} {A : Option Addr} {n c : Nat} {xs : List Int} {B : Nat} (hc : fcodeB d l p = true) (hn : n ≤ 1000000000000000) (w : World) (hr : RI w B A n xs) (hB : B ≤ w.heap.size) :
    Calls Try.prog 47 #[.agg #[.int .i64 d, .int .i64 l, .int .i64 p], .slice A n c] w fun e w' =>
      e = .returned (.agg #[.int .i64 (nrV d l p xs), .int .i64 (nrD d l p xs), .int .i64 (nrU xs l), .int .i64 (nrC d l p xs)]) ∧ Below w.heap.size w w' := by
  obtain ⟨D, k, P, rfl, rfl, rfl, hD0, hD, hk0, hk, hDk, hp⟩ := fcodeB_true hc
  exact nearest_any D k P A n c xs w B hr hB hn hD0 hD hk0 hDk hp
theorem nr_cases {d l p : Int} (xs : List Int) (hc : fcodeB d l p = true) : 
    (listB xs l = false ∧ nrV d l p xs = 0 ∧ nrD d l p xs = 0 ∧ nrU xs l = 0 ∧ nrC d l p xs = 2) ∨
    (listB xs l = true ∧ nrV d l p xs = nB d l p xs ∧ nrD d l p xs = nL d l p xs ∧ nrU xs l = unkL xs ∧ nL d l p xs ≤ 25 ∧ unkL xs ≤ 24 ∧ ((nOk d l p xs = false ∧ nrC d l p xs = 7) ∨ (nOk d l p xs = true ∧ nrC d l p xs = 0))) := by
  cases hx : listB xs l
  · exact .inl ⟨rfl, nr_no hx⟩
  · obtain ⟨b1, b2, b3, b4⟩ := n_bd hc hx
    refine .inr ⟨rfl, ?_, ?_, ?_, b1, b2, ?_⟩
    · unfold nrV; simp [hx]
    · unfold nrD; simp [hx]
    · unfold nrU; simp [hx]
    · unfold nrC
      cases ho : nOk d l p xs
      · exact .inl ⟨rfl, by simp [hx]⟩
      · exact .inr ⟨rfl, by simp [hx]⟩
set_option maxHeartbeats 2000000 in
theorem NearestFormat_any (d l p : Int) (A : Option Addr) (n c : Nat) (xs : List Int) (w : World) (B : Nat) (hr : RI w B A n xs) (hB : B ≤ w.heap.size) (hn : n ≤ 1000000000000000) (hl : -9223372036854775808 ≤ l ∧ l ≤ 9223372036854775807) :
    Calls Try.prog 23 #[.agg #[.int .i64 d, .int .i64 l, .int .i64 p], .slice A n c] w fun e w' =>
      e = .returned (.tuple #[.int .i64 (nfV d l p xs), .int .i64 (nfD d l p xs), .int .i64 (nfC d l p xs)]) ∧ Below w.heap.size w w' := by
  have HR := Lib.hid hr
  unfold nfV nfD nfC
  clear hr
  cases hc : fcodeB d l p
  · go_enter Try.func23, Try.ntmps23
    go_wp2_with (go_at_call 29; go_call (IsFormatCode_any _ _ _ _ hl) as e1 w1 ⟨rfl, hb1⟩; obtain ⟨hc1, hf1⟩ := bcell hb1; have hB1 : Below w.heap.size w w1 := (below_then (by first | (go_grown; done) | (repeat (first | (with_reducible assumption) | (with_reducible exact Below.refl _ _) | (with_reducible refine below_drewN' ?_ _) | (with_reducible refine Below.drew ?_) | ((with_reducible refine Below.alloc ?_ ?_ _); rotate_left; focus (first | (simp; done) | (simp; omega) | omega)) | ((with_reducible refine Below.setCell ?_ ?_ _); rotate_left; focus (first | (simp; done) | (simp; omega) | omega))))) (by first | omega | (simp; done) | (simp; omega)) hb1); have hz1a : w.heap.size < w1.heap.size := (by have := hb1.size; first | omega | (simp at this; omega)))
    go_returns
    exact ⟨rfl, hB1⟩
  · have hns := fun (w' : World) (hb : Below B w w') => nearest_ok (c := c) hc hn w' (HR.out.below hb) (by have := hb.size; omega)
    rcases nr_cases xs hc with ⟨hx, e1, e2, e3, e4⟩ | ⟨hx, e1, e2, e3, b1, b2, ⟨ho, e4⟩ | ⟨ho, e4⟩⟩
    all_goals
      rw [e1, e2, e3, e4] at hns
      have HN := Lib.hid hns
      rw [hx]
      try rw [ho]
      clear hns e1 e2 e3 e4
      go_enter Try.func23, Try.ntmps23
      go_wp2_with fail
      (go_at_call 29; go_call (IsFormatCode_any _ _ _ _ hl) as e1 w1 ⟨rfl, hb1⟩; obtain ⟨hc1, hf1⟩ := bcell hb1; have hB1 : Below w.heap.size w w1 := (below_then (by first | (go_grown; done) | (repeat (first | (with_reducible assumption) | (with_reducible exact Below.refl _ _) | (with_reducible refine below_drewN' ?_ _) | (with_reducible refine Below.drew ?_) | ((with_reducible refine Below.alloc ?_ ?_ _); rotate_left; focus (first | (simp; done) | (simp; omega) | omega)) | ((with_reducible refine Below.setCell ?_ ?_ _); rotate_left; focus (first | (simp; done) | (simp; omega) | omega))))) (by first | omega | (simp; done) | (simp; omega)) hb1); have hz1a : w.heap.size < w1.heap.size := (by have := hb1.size; first | omega | (simp at this; omega)))
      go_wp2_with fail
      (go_at_call 47; go_call (HN.out _ (hB1.mono hB)) as e2 w2 ⟨rfl, hb2⟩; obtain ⟨hc2, hf2⟩ := bcell hb2; have hB2 : Below w.heap.size w w2 := (below_then (by first | (go_grown; done) | (repeat (first | (with_reducible assumption) | (with_reducible exact Below.refl _ _) | (with_reducible refine below_drewN' ?_ _) | (with_reducible refine Below.drew ?_) | ((with_reducible refine Below.alloc ?_ ?_ _); rotate_left; focus (first | (simp; done) | (simp; omega) | omega)) | ((with_reducible refine Below.setCell ?_ ?_ _); rotate_left; focus (first | (simp; done) | (simp; omega) | omega))))) (by first | omega | (simp; done) | (simp; omega)) hb2); have hz2a : w.heap.size < w2.heap.size := (by have := hb2.size; first | omega | (simp at this; omega)))
      go_wp2_with fail
      go_quiet (fail)
      go_wp2_with fail
      go_returns
      exact ⟨rfl, by (repeat (first | (with_reducible assumption) | (with_reducible exact Below.refl _ _) | (with_reducible refine below_drewN' ?_ _) | (with_reducible refine Below.drew ?_) | ((with_reducible refine Below.alloc ?_ ?_ _); rotate_left; focus (first | (simp; done) | (simp; omega) | omega)) | ((with_reducible refine Below.setCell ?_ ?_ _); rotate_left; focus (first | (simp; done) | (simp; omega) | omega))))⟩
end Go.Proofs.Ytkdaodfhilhfgaa
