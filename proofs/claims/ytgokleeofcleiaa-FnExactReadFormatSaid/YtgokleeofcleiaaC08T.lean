/-
  Contracts of chapter 8, the program: NearestFormat, FormatShare.
-/
import Derived.Test.YtgokleeofcleiaaC08M
namespace Go.Proofs.Ytgokleeofcleiaa
open Go.RowKit

theorem below_blur {B : Nat} {w W : World} (h : Below B w W) (hB : B ≤ W.heap.size) (z : Blur W) : Below B w (blur z) := h.trans (z.below.mono hB)
theorem nearest_ok {d l p : Int} {A : Option Addr} {n c : Nat} {xs : List Int} {B : Nat} (hc : fcodeB d l p = true) (hn : n ≤ 1000000000000000) (w : World) (hr : RI w B A n xs) (hB : B ≤ w.heap.size) :
    Calls Try.prog 97 #[.agg #[.int .i64 d, .int .i64 l, .int .i64 p], .slice A n c] w fun e w' =>
      e = .returned (.agg #[.int .i64 (nrV d l p xs), .int .i64 (nrD d l p xs), .int .i64 (nrU xs l), .int .i64 (nrC d l p xs)]) ∧ Below w.heap.size w w' := by
  obtain ⟨D, k, P, rfl, rfl, rfl, hD0, hD, hk0, hk, hDk, hp⟩ := fcodeB_true hc
  exact nearest_any D k P A n c xs w B hr hB hn hD0 hD hk0 hDk hp
theorem nr_cases {d l p : Int} (xs : List Int) (hc : fcodeB d l p = true) : 
    (listB xs l = false ∧ nrV d l p xs = 0 ∧ nrD d l p xs = 0 ∧ nrU xs l = 0 ∧ nrC d l p xs = 2) ∨
    (listB xs l = true ∧ nrV d l p xs = nB d l p xs ∧ nrD d l p xs = nL d l p xs ∧ nrU xs l = unkL xs ∧ nL d l p xs ≤ 25 ∧ unkL xs ≤ 24 ∧ ((nOk d l p xs = false ∧ nrC d l p xs = 7) ∨ (nOk d l p xs = true ∧ nrC d l p xs = 0))) := by
  cases hx : listB xs l
  · exact .inl ⟨rfl, nr_no hx⟩
  · obtain ⟨b1, b2, b3, b4⟩ := n_bd hc hx
    refine .inr ⟨rfl, ?_, ?_, ?_, b1, b2, ?_⟩
    · unfold nrV; simp [hx]
    · unfold nrD; simp [hx]
    · unfold nrU; simp [hx]
    · unfold nrC
      cases ho : nOk d l p xs
      · exact .inl ⟨rfl, by simp [hx]⟩
      · exact .inr ⟨rfl, by simp [hx]⟩
end Go.Proofs.Ytgokleeofcleiaa
