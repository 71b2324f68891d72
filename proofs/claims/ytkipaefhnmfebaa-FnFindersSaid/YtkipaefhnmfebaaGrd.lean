/-
  Grids that are told by a function of row and column: plain (the same words as in XC26G, which a text that imports this one must not import).
-/
import Derived.Test.YtkipaefhnmfebaaFix
import Derived.Test.YtkipaefhnmfebaaBlk
import Derived.Test.YtkipaefhnmfebaaArgG
namespace Go.Proofs.Ytkipaefhnmfebaa
set_option linter.unusedSimpArgs false
open Go.RowKit

/-- The cells of a grid, row by row. -/
def grdL (R C : Nat) (f : Nat → Nat → Int) : List Int := (List.range (R * C)).map fun i => f (i / C) (i % C)
theorem grdL_len (R C : Nat) (f : Nat → Nat → Int) : (grdL R C f).length = R * C := by simp [grdL]
theorem cell_lt2 {R C r c : Nat} (hr : r < R) (hc : c < C) : r * C + c < R * C := by
  have := Nat.mul_le_mul_right C (show r + 1 ≤ R by omega)
  rw [Nat.add_mul] at this
  omega
theorem cell_div2 {N r c : Nat} (hc : c < N) : (r * N + c) / N = r ∧ (r * N + c) % N = c := by
  constructor
  · rw [Nat.add_comm, Nat.add_mul_div_right _ _ (by omega), Nat.div_eq_of_lt hc, Nat.zero_add]
  · rw [Nat.add_comm, Nat.add_mul_mod_self_right, Nat.mod_eq_of_lt hc]
theorem grdL_nth {R C r c : Nat} {f : Nat → Nat → Int} (hr : r < R) (hc : c < C) : nth (grdL R C f) (r * C + c) = f r c := by
  have h := cell_lt2 hr hc
  rw [nth_lt (by rw [grdL_len]; exact h)]
  simp only [grdL, List.getElem_map, List.getElem_range, (cell_div2 hc).1, (cell_div2 hc).2]
theorem grdL_mix {R C i : Nat} {f : Nat → Nat → Int} {old : List Int} (hl : old.length = R * C) (hi : i < R * C) :
    ((grdL R C f).take i ++ old.drop i).set i (f (i / C) (i % C)) = (grdL R C f).take (i + 1) ++ old.drop (i + 1) := by
  have h := set_mix (xs := old) (ys := grdL R C f) (k := i) (by rw [grdL_len, hl]) (by omega)
  rwa [show nth (grdL R C f) i = f (i / C) (i % C) from by rw [nth_lt (by rw [grdL_len]; exact hi)]; simp [grdL]] at h
theorem div_lt2 {R C i : Nat} (hi : i < R * C) : i / C < R ∧ i % C < C := by
  have hC : 0 < C := by
    rcases Nat.eq_zero_or_pos C with h | h
    · subst h; simp at hi
    · exact h
  exact ⟨Nat.div_lt_of_lt_mul (by rwa [Nat.mul_comm] at hi), Nat.mod_lt _ hC⟩
theorem i64_inH {n : Int} (h : -9223372036854775808 ≤ n ∧ n ≤ 9223372036854775807) : IntKind.i64.wrap n = n := by
  rw [IntKind.wrap_i64]; omega
theorem below_blurH {B : Nat} {w W : World} (h : Below B w W) (hB : B ≤ W.heap.size) (z : Blur W) : Below B w (blur z) := h.trans (z.below.mono hB)
theorem grown_bH {a w w' : World} {r : Option Nat} (h : a.grownBy w r) (hb : Below w.heap.size w w') : a.grownBy w' r :=
  ⟨hb.os.trans h.os, hb.tape.trans h.tape, hb.output.trans h.output, Nat.le_trans h.size hb.size, fun j hj hne => (hb.block j (Nat.lt_of_lt_of_le hj h.size)).trans (h.block j hj hne)⟩
end Go.Proofs.Ytkipaefhnmfebaa
