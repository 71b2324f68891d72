/-
  Contracts of chapter 8, the reference: NearestFormat, FormatShare.
-/
import Derived.Test.YtgokleeofcleiaaC08N
namespace Go.Proofs.Ytgokleeofcleiaa
set_option linter.unusedSimpArgs false
open Go.RowKit

def nB (d l p : Int) (xs : List Int) : Nat := (nearN (farV d.toNat (l - d).toNat p.toNat xs) (d.toNat + (l - d).toNat) (2 ^ d.toNat)).1
def nL (d l p : Int) (xs : List Int) : Nat := (nearN (farV d.toNat (l - d).toNat p.toNat xs) (d.toNat + (l - d).toNat) (2 ^ d.toNat)).2
def nOk (d l p : Int) (xs : List Int) : Bool := decide (2 * nL d l p xs + unkL xs < minD d.toNat (d.toNat + (l - d).toNat) p.toNat (2 ^ d.toNat))
theorem n_at (D k P : Nat) (xs : List Int) : nB D ((D : Int) + k) P xs = (nearN (farV D k P xs) (D + k) (2 ^ D)).1 ∧ nL D ((D : Int) + k) P xs = (nearN (farV D k P xs) (D + k) (2 ^ D)).2 ∧
    nOk D ((D : Int) + k) P xs = decide (2 * (nearN (farV D k P xs) (D + k) (2 ^ D)).2 + unkL xs < minD D (D + k) P (2 ^ D)) := by
  unfold nOk nB nL
  rw [show ((D : Int) + k - D).toNat = k by omega]
  exact ⟨rfl, rfl, rfl⟩
theorem n_bd {d l p : Int} {xs : List Int} (hc : fcodeB d l p = true) (hl : listB xs l = true) : nL d l p xs ≤ 25 ∧ unkL xs ≤ 24 ∧ nB d l p xs ≤ 256 ∧ xs.length ≤ 24 := by
  obtain ⟨D, k, P, rfl, rfl, rfl, hD0, hD, hk0, hk, hDk, hp⟩ := fcodeB_true hc
  obtain ⟨e1, e2, _⟩ := n_at D k P xs
  have hlen : (xs.length : Int) = (D : Int) + k := by unfold listB at hl; simp at hl; exact hl.2
  have h1 := nearN_le (farV D k P xs) (D + k) (2 ^ D)
  have h2 := unkL_le xs
  have h3 : 2 ^ D ≤ 2 ^ 8 := Nat.pow_le_pow_right (by decide) hD
  rw [e1, e2]
  omega
theorem l08Nearest_ok {d l p : Int} {A : Option Addr} {n c : Nat} {xs : List Int} {B : Nat} (hc : fcodeB d l p = true) (hl : listB xs l = true) (w : World) (hr : RI w B A n xs) (hB : B ≤ w.heap.size) :
    Calls Try.prog 95 #[.agg #[.int .i64 d, .int .i64 l, .int .i64 p], .slice A n c] w fun e w' =>
      e = .returned (.tuple #[.int .i64 (nB d l p xs), .int .i64 (nL d l p xs), .int .i64 (unkL xs), .bool (nOk d l p xs)]) ∧ Below w.heap.size w w' := by
  obtain ⟨D, k, P, rfl, rfl, rfl, hD0, hD, hk0, hk, hDk, hp⟩ := fcodeB_true hc
  obtain ⟨e1, e2, e3⟩ := n_at D k P xs
  have hlen : (xs.length : Int) = (D : Int) + k := by unfold listB at hl; simp at hl; exact hl.2
  have hn : n = D + k := by have := hr.len; omega
  subst hn
  rw [e1, e2, e3]
  exact l08Nearest_any D k P A c xs w B hr hB hD0 hD hk0 hDk hp
/-- What NearestFormat tells. -/
def nfC (d l p : Int) (xs : List Int) : Int := if fcodeB d l p then (if listB xs l then (if nOk d l p xs then 0 else 7) else 2) else 1
def nfV (d l p : Int) (xs : List Int) : Int := if fcodeB d l p && listB xs l && nOk d l p xs then nB d l p xs else 0
def nfD (d l p : Int) (xs : List Int) : Int := if fcodeB d l p && listB xs l && nOk d l p xs then nL d l p xs else 0
/-- What FormatShare tells, by what is found in both lists. -/
def pick2 (o1 o2 : Bool) (v1 v2 c1 c2 : Nat) : Int := if !o1 && !o2 then 0 else (if !o1 || (o2 && decide (c2 < c1)) then v2 else v1)
def shC (d l p : Int) (xs ys : List Int) : Int := if fcodeB d l p then (if listB xs l && listB ys l then (if !nOk d l p xs && !nOk d l p ys then 7 else 0) else 2) else 1
def shV (d l p : Int) (xs ys : List Int) : Int := if fcodeB d l p && listB xs l && listB ys l then pick2 (nOk d l p xs) (nOk d l p ys) (nB d l p xs) (nB d l p ys) (2 * nL d l p xs + unkL xs) (2 * nL d l p ys + unkL ys) else 0
set_option maxHeartbeats 2000000 in
theorem sFormatShare_any (d l p : Int) (A A' : Option Addr) (n c n' c' : Nat) (xs ys : List Int) (w : World) (B : Nat) (hr : RI w B A n xs) (hr' : RI w B A' n' ys) (hB : B ≤ w.heap.size) (hn : n ≤ 1000000000000000) (hn' : n' ≤ 1000000000000000) (hl : -9223372036854775808 ≤ l ∧ l ≤ 9223372036854775807) :
    Calls Try.prog 72 #[.agg #[.int .i64 d, .int .i64 l, .int .i64 p], .slice A n c, .slice A' n' c'] w fun e w' =>
      e = .returned (.tuple #[.int .i64 (shV d l p xs ys), .int .i64 (shC d l p xs ys)]) ∧ Below w.heap.size w w' := by
  have HR := Lib.hid hr
  have HR' := Lib.hid hr'
  have HLL := Lib.hid (fun (w' : World) (hb : Below B w w') => l08List_any d l p A n c xs w' B (hr.below hb) (by have := hb.size; omega) hn)
  have HLL' := Lib.hid (fun (w' : World) (hb : Below B w w') => l08List_any d l p A' n' c' ys w' B (hr'.below hb) (by have := hb.size; omega) hn')
  unfold shV shC pick2
  clear hr hr'
  cases hc : fcodeB d l p
  · go_enter Try.func72, Try.ntmps72
    go_wp2_with (go_at_call 93; go_call (sIsFormatCode_any _ _ _ _ hl) as e1 w1 ⟨rfl, hb1⟩; obtain ⟨hc1, hf1⟩ := bcell hb1; have hB1 : Below w.heap.size w w1 := (below_then (by first | (go_grown; done) | (repeat (first | (with_reducible assumption) | (with_reducible exact Below.refl _ _) | (with_reducible refine below_drewN' ?_ _) | (with_reducible refine Below.drew ?_) | ((with_reducible refine Below.alloc ?_ ?_ _); rotate_left; focus (first | (simp; done) | (simp; omega) | omega)) | ((with_reducible refine Below.setCell ?_ ?_ _); rotate_left; focus (first | (simp; done) | (simp; omega) | omega))))) (by first | omega | (simp; done) | (simp; omega)) hb1); have hz1a : w.heap.size < w1.heap.size := (by have := hb1.size; first | omega | (simp at this; omega)))
    go_returns
    exact ⟨rfl, hB1⟩
  · cases hx : listB xs l
    · rw [hx] at HLL
      go_enter Try.func72, Try.ntmps72
      go_wp2_with first | (go_at_call 93; go_call (sIsFormatCode_any _ _ _ _ hl) as e1 w1 ⟨rfl, hb1⟩; obtain ⟨hc1, hf1⟩ := bcell hb1; have hB1 : Below w.heap.size w w1 := (below_then (by first | (go_grown; done) | (repeat (first | (with_reducible assumption) | (with_reducible exact Below.refl _ _) | (with_reducible refine below_drewN' ?_ _) | (with_reducible refine Below.drew ?_) | ((with_reducible refine Below.alloc ?_ ?_ _); rotate_left; focus (first | (simp; done) | (simp; omega) | omega)) | ((with_reducible refine Below.setCell ?_ ?_ _); rotate_left; focus (first | (simp; done) | (simp; omega) | omega))))) (by first | omega | (simp; done) | (simp; omega)) hb1); have hz1a : w.heap.size < w1.heap.size := (by have := hb1.size; first | omega | (simp at this; omega))) | (go_at_call 94; go_call (HLL.out _ (hB1.mono hB)) as e2 w2 ⟨rfl, hb2⟩; obtain ⟨hc2, hf2⟩ := bcell hb2; have hB2 : Below w.heap.size w w2 := (below_then (by first | (go_grown; done) | (repeat (first | (with_reducible assumption) | (with_reducible exact Below.refl _ _) | (with_reducible refine below_drewN' ?_ _) | (with_reducible refine Below.drew ?_) | ((with_reducible refine Below.alloc ?_ ?_ _); rotate_left; focus (first | (simp; done) | (simp; omega) | omega)) | ((with_reducible refine Below.setCell ?_ ?_ _); rotate_left; focus (first | (simp; done) | (simp; omega) | omega))))) (by first | omega | (simp; done) | (simp; omega)) hb2); have hz2a : w.heap.size < w2.heap.size := (by have := hb2.size; first | omega | (simp at this; omega)))
      go_returns
      exact ⟨rfl, hB2⟩
    · rw [hx] at HLL
      cases hy : listB ys l
      · rw [hy] at HLL'
        go_enter Try.func72, Try.ntmps72
        go_wp2_with fail
        (go_at_call 93; go_call (sIsFormatCode_any _ _ _ _ hl) as e1 w1 ⟨rfl, hb1⟩; obtain ⟨hc1, hf1⟩ := bcell hb1; have hB1 : Below w.heap.size w w1 := (below_then (by first | (go_grown; done) | (repeat (first | (with_reducible assumption) | (with_reducible exact Below.refl _ _) | (with_reducible refine below_drewN' ?_ _) | (with_reducible refine Below.drew ?_) | ((with_reducible refine Below.alloc ?_ ?_ _); rotate_left; focus (first | (simp; done) | (simp; omega) | omega)) | ((with_reducible refine Below.setCell ?_ ?_ _); rotate_left; focus (first | (simp; done) | (simp; omega) | omega))))) (by first | omega | (simp; done) | (simp; omega)) hb1); have hz1a : w.heap.size < w1.heap.size := (by have := hb1.size; first | omega | (simp at this; omega)))
        go_wp2_with fail
        (go_at_call 94; go_call (HLL.out _ (hB1.mono hB)) as e2 w2 ⟨rfl, hb2⟩; obtain ⟨hc2, hf2⟩ := bcell hb2; have hB2 : Below w.heap.size w w2 := (below_then (by first | (go_grown; done) | (repeat (first | (with_reducible assumption) | (with_reducible exact Below.refl _ _) | (with_reducible refine below_drewN' ?_ _) | (with_reducible refine Below.drew ?_) | ((with_reducible refine Below.alloc ?_ ?_ _); rotate_left; focus (first | (simp; done) | (simp; omega) | omega)) | ((with_reducible refine Below.setCell ?_ ?_ _); rotate_left; focus (first | (simp; done) | (simp; omega) | omega))))) (by first | omega | (simp; done) | (simp; omega)) hb2); have hz2a : w.heap.size < w2.heap.size := (by have := hb2.size; first | omega | (simp at this; omega)))
        go_wp2_with fail
        (go_at_call 94; go_call (HLL'.out _ (hB2.mono hB)) as e3 w3 ⟨rfl, hb3⟩; obtain ⟨hc3, hf3⟩ := bcell hb3; have hB3 : Below w.heap.size w w3 := (below_then (by first | (go_grown; done) | (repeat (first | (with_reducible assumption) | (with_reducible exact Below.refl _ _) | (with_reducible refine below_drewN' ?_ _) | (with_reducible refine Below.drew ?_) | ((with_reducible refine Below.alloc ?_ ?_ _); rotate_left; focus (first | (simp; done) | (simp; omega) | omega)) | ((with_reducible refine Below.setCell ?_ ?_ _); rotate_left; focus (first | (simp; done) | (simp; omega) | omega))))) (by first | omega | (simp; done) | (simp; omega)) hb3); have hz3a : w.heap.size < w3.heap.size := (by have := hb3.size; first | omega | (simp at this; omega)))
        go_wp2_with fail
        go_returns
        exact ⟨rfl, hB3⟩
      · rw [hy] at HLL'
        have HN := Lib.hid (fun (w' : World) (hb : Below B w w') => l08Nearest_ok (c := c) hc hx w' (HR.out.below hb) (by have := hb.size; omega))
        have HN' := Lib.hid (fun (w' : World) (hb : Below B w w') => l08Nearest_ok (c := c') hc hy w' (HR'.out.below hb) (by have := hb.size; omega))
        obtain ⟨b1, b2, b3, b4⟩ := n_bd hc hx
        obtain ⟨b1', b2', b3', b4'⟩ := n_bd hc hy
        generalize nB d l p xs = vB at HN b3 ⊢
        generalize nL d l p xs = vL at HN b1 ⊢
        generalize nB d l p ys = vB' at HN' b3' ⊢
        generalize nL d l p ys = vL' at HN' b1' ⊢
        generalize unkL xs = vU at HN b2 ⊢
        generalize unkL ys = vU' at HN' b2' ⊢
        generalize nOk d l p xs = o at HN ⊢
        generalize nOk d l p ys = o' at HN' ⊢
        by_cases hcmp : 2 * vL' + vU' < 2 * vL + vU
        all_goals
          have hcmp' : decide (2 * (vL' : Int) + vU' < 2 * (vL : Int) + vU) = decide (2 * vL' + vU' < 2 * vL + vU) := decide_eq_decide.2 (by omega)
          cases o <;> cases o'
          all_goals
            go_enter Try.func72, Try.ntmps72
            go_wp2_with fail
            (go_at_call 93; go_call (sIsFormatCode_any _ _ _ _ hl) as e1 w1 ⟨rfl, hb1⟩; obtain ⟨hc1, hf1⟩ := bcell hb1; have hB1 : Below w.heap.size w w1 := (below_then (by first | (go_grown; done) | (repeat (first | (with_reducible assumption) | (with_reducible exact Below.refl _ _) | (with_reducible refine below_drewN' ?_ _) | (with_reducible refine Below.drew ?_) | ((with_reducible refine Below.alloc ?_ ?_ _); rotate_left; focus (first | (simp; done) | (simp; omega) | omega)) | ((with_reducible refine Below.setCell ?_ ?_ _); rotate_left; focus (first | (simp; done) | (simp; omega) | omega))))) (by first | omega | (simp; done) | (simp; omega)) hb1); have hz1a : w.heap.size < w1.heap.size := (by have := hb1.size; first | omega | (simp at this; omega)))
            go_wp2_with fail
            (go_at_call 94; go_call (HLL.out _ (hB1.mono hB)) as e2 w2 ⟨rfl, hb2⟩; obtain ⟨hc2, hf2⟩ := bcell hb2; have hB2 : Below w.heap.size w w2 := (below_then (by first | (go_grown; done) | (repeat (first | (with_reducible assumption) | (with_reducible exact Below.refl _ _) | (with_reducible refine below_drewN' ?_ _) | (with_reducible refine Below.drew ?_) | ((with_reducible refine Below.alloc ?_ ?_ _); rotate_left; focus (first | (simp; done) | (simp; omega) | omega)) | ((with_reducible refine Below.setCell ?_ ?_ _); rotate_left; focus (first | (simp; done) | (simp; omega) | omega))))) (by first | omega | (simp; done) | (simp; omega)) hb2); have hz2a : w.heap.size < w2.heap.size := (by have := hb2.size; first | omega | (simp at this; omega)))
            go_wp2_with fail
            (go_at_call 94; go_call (HLL'.out _ (hB2.mono hB)) as e3 w3 ⟨rfl, hb3⟩; obtain ⟨hc3, hf3⟩ := bcell hb3; have hB3 : Below w.heap.size w w3 := (below_then (by first | (go_grown; done) | (repeat (first | (with_reducible assumption) | (with_reducible exact Below.refl _ _) | (with_reducible refine below_drewN' ?_ _) | (with_reducible refine Below.drew ?_) | ((with_reducible refine Below.alloc ?_ ?_ _); rotate_left; focus (first | (simp; done) | (simp; omega) | omega)) | ((with_reducible refine Below.setCell ?_ ?_ _); rotate_left; focus (first | (simp; done) | (simp; omega) | omega))))) (by first | omega | (simp; done) | (simp; omega)) hb3); have hz3a : w.heap.size < w3.heap.size := (by have := hb3.size; first | omega | (simp at this; omega)))
            go_wp2_with fail
            (go_at_call 95; go_call (HN.out _ (hB3.mono hB)) as e4 w4 ⟨rfl, hb4⟩; obtain ⟨hc4, hf4⟩ := bcell hb4; have hB4 : Below w.heap.size w w4 := (below_then (by first | (go_grown; done) | (repeat (first | (with_reducible assumption) | (with_reducible exact Below.refl _ _) | (with_reducible refine below_drewN' ?_ _) | (with_reducible refine Below.drew ?_) | ((with_reducible refine Below.alloc ?_ ?_ _); rotate_left; focus (first | (simp; done) | (simp; omega) | omega)) | ((with_reducible refine Below.setCell ?_ ?_ _); rotate_left; focus (first | (simp; done) | (simp; omega) | omega))))) (by first | omega | (simp; done) | (simp; omega)) hb4); have hz4a : w.heap.size < w4.heap.size := (by have := hb4.size; first | omega | (simp at this; omega)))
            go_wp2_with fail
            (go_at_call 95; go_call (HN'.out _ (hB4.mono hB)) as e5 w5 ⟨rfl, hb5⟩; obtain ⟨hc5, hf5⟩ := bcell hb5; have hB5 : Below w.heap.size w w5 := (below_then (by first | (go_grown; done) | (repeat (first | (with_reducible assumption) | (with_reducible exact Below.refl _ _) | (with_reducible refine below_drewN' ?_ _) | (with_reducible refine Below.drew ?_) | ((with_reducible refine Below.alloc ?_ ?_ _); rotate_left; focus (first | (simp; done) | (simp; omega) | omega)) | ((with_reducible refine Below.setCell ?_ ?_ _); rotate_left; focus (first | (simp; done) | (simp; omega) | omega))))) (by first | omega | (simp; done) | (simp; omega)) hb5); have hz5a : w.heap.size < w5.heap.size := (by have := hb5.size; first | omega | (simp at this; omega)))
            go_wp2_with fail
            go_returns
            exact ⟨by simp [hcmp] <;> omega, hB5⟩
end Go.Proofs.Ytgokleeofcleiaa
