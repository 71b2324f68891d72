/-
  Contracts of UnknownCells: how many cells of a grid are unknown.
-/
import Derived.Test.YtflpllmbpfdnjaaC14
namespace Go.Proofs.Ytflpllmbpfdnjaa
set_option linter.unusedSimpArgs false
open Go.RowKit

def neg (x : Int) : Bool := decide (x < 0)
def unkV (r c : Int) (xs : List Int) : Int := if gridB r c xs then (cnt neg xs : Int) else 0
def unkC (r c : Int) (xs : List Int) : Int := if gridB r c xs then 0 else 1
set_option maxHeartbeats 1000000 in
theorem UnknownCells_any (r c : Int) (A : Option Addr) (n cp : Nat) (xs : List Int) (w : World) (B : Nat) (hr : RI w B A n xs) (hB : B ≤ w.heap.size) (hn : n ≤ 1000000000000000) :
    Calls Try.prog 39 #[.agg #[.int .i64 r, .int .i64 c, .slice A n cp]] w fun e w' => e = .returned (.tuple #[.int .i64 (unkV r c xs), .int .i64 (unkC r c xs)]) ∧ Below w.heap.size w w' := by
  have HL := Lib.hid hr.len
  have HR := Lib.hid (hr.alloc hB (.cells #[.int .i64 r, .int .i64 c, .slice A n cp] 41))
  have hsz : B ≤ (w.alloc (.cells #[.int .i64 r, .int .i64 c, .slice A n cp] 41)).heap.size := by simp; omega
  have HC := Lib.hid (IsGrid_any r c A n cp xs (w.alloc (.cells #[.int .i64 r, .int .i64 c, .slice A n cp] 41)) B HR.out hsz hn)
  clear hr hsz
  unfold unkV unkC
  cases hg : gridB r c xs
  · rw [hg] at HC
    go_enter Try.func39, Try.ntmps39
    go_wp2_with (go_at_call 63; go_call (HC.out) as e1 w1 ⟨rfl, hb1⟩; obtain ⟨hc1, hf1⟩ := bcell hb1; have hB1 : Below w.heap.size w w1 := (below_then (by first | (go_grown; done) | (repeat (first | (with_reducible assumption) | (with_reducible exact Below.refl _ _) | (with_reducible refine below_drewN' ?_ _) | (with_reducible refine Below.drew ?_) | ((with_reducible refine Below.alloc ?_ ?_ _); rotate_left; focus (first | (simp; done) | (simp; omega) | omega)) | ((with_reducible refine Below.setCell ?_ ?_ _); rotate_left; focus (first | (simp; done) | (simp; omega) | omega))))) (by first | omega | (simp; done) | (simp; omega)) hb1); have hz1a : w.heap.size < w1.heap.size := (by have := hb1.size; first | omega | (simp at this; omega)))
    go_returns
    exact ⟨by simp, by (repeat (first | (with_reducible assumption) | (with_reducible exact Below.refl _ _) | (with_reducible refine below_drewN' ?_ _) | (with_reducible refine Below.drew ?_) | ((with_reducible refine Below.alloc ?_ ?_ _); rotate_left; focus (first | (simp; done) | (simp; omega) | omega)) | ((with_reducible refine Below.setCell ?_ ?_ _); rotate_left; focus (first | (simp; done) | (simp; omega) | omega))))⟩
  · rw [hg] at HC
    have HG := Lib.hid (gridB_true hg)
    have hn4 : n ≤ 40000 := by have h1 := HL.out; have h2 := HG.out.2.2; omega
    have HN := Lib.hid hn4
    clear hg hn4
    go_enter Try.func39, Try.ntmps39
    go_wp2_with (go_at_call 63; go_call (HC.out) as e1 w1 ⟨rfl, hb1⟩; obtain ⟨hc1, hf1⟩ := bcell hb1; have hB1 : Below w.heap.size w w1 := (below_then (by first | (go_grown; done) | (repeat (first | (with_reducible assumption) | (with_reducible exact Below.refl _ _) | (with_reducible refine below_drewN' ?_ _) | (with_reducible refine Below.drew ?_) | ((with_reducible refine Below.alloc ?_ ?_ _); rotate_left; focus (first | (simp; done) | (simp; omega) | omega)) | ((with_reducible refine Below.setCell ?_ ?_ _); rotate_left; focus (first | (simp; done) | (simp; omega) | omega))))) (by first | omega | (simp; done) | (simp; omega)) hb1); have hz1a : w.heap.size < w1.heap.size := (by have := hb1.size; first | omega | (simp at this; omega)))
    have HR1 := Lib.hid (HR.out.below (hb1.mono (by simp; omega)))
    go_loop [4, 13] (fun q i => ∃ k : Nat, k ≤ n ∧ i = .int .i64 k ∧ q = .int .i64 (cnt neg (xs.take k) : Nat)) (fun _ i => n - (intOf i).toNat)
    case atStart => exact ⟨0, Nat.zero_le _, rfl, rfl⟩
    case round =>
      obtain ⟨k, hk, rfl, rfl⟩ := hrel
      by_cases hlt : k < n
      · obtain ⟨b, o, rfl, hb, hc⟩ := HR1.out.cells (by omega)
        have hck := hc k hlt
        clear hc
        have hle := cnt_take_le neg xs k
        have hn4 := HN.out
        have hst := cnt_take (p := neg) (xs := xs) (k := k) (by rw [HL.out]; exact hlt)
        have HS := Lib.hid hst
        clear hst
        by_cases he : nth xs k < 0
        · go_wp2_with fail
          go_round
          case rel => exact ⟨k + 1, by omega, by go_num, by rw [HS.out]; simp [neg, he]⟩
          case measure => simp [intOf]; omega
        · go_wp2_with fail
          go_round
          case rel => exact ⟨k + 1, by omega, by go_num, by rw [HS.out]; simp [neg, he]⟩
          case measure => simp [intOf]; omega
      · have hkn : k = n := by omega
        have hA : cnt neg (xs.take k) = cnt neg xs := by rw [hkn, List.take_of_length_le (by rw [HL.out]; exact Nat.le_refl _)]
        have HA := Lib.hid hA
        clear hA hkn
        go_wp2_with fail
        go_returns
        exact ⟨by rw [HA.out]; simp, by (repeat (first | (with_reducible assumption) | (with_reducible exact Below.refl _ _) | (with_reducible refine below_drewN' ?_ _) | (with_reducible refine Below.drew ?_) | ((with_reducible refine Below.alloc ?_ ?_ _); rotate_left; focus (first | (simp; done) | (simp; omega) | omega)) | ((with_reducible refine Below.setCell ?_ ?_ _); rotate_left; focus (first | (simp; done) | (simp; omega) | omega))))⟩


end Go.Proofs.Ytflpllmbpfdnjaa
