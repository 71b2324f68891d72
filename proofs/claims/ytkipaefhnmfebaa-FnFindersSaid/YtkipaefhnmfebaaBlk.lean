/-
  Blocks of which the whole content is known: their cells, stores into them, results that lie in them. No program in sight.
-/
import Derived.Test.YtkipaefhnmfebaaCore
namespace Go.Proofs.Ytkipaefhnmfebaa
open Go.RowKit

theorem blk3 {w : World} {b t : Nat} {x y z : Value} (h : w.heap[b]? = some (.cells #[x, y, z] t (0, 0))) :
    w.cell? ⟨b, 0, none⟩ = some x ∧ w.cell? ⟨b, 1, none⟩ = some y ∧ w.cell? ⟨b, 2, none⟩ = some z ∧ ∀ k, w.frozen? ⟨b, k, none⟩ = false := by
  refine ⟨?_, ?_, ?_, fun k => ?_⟩ <;> simp [World.cell?, World.frozen?, h]
theorem blk3_set {w : World} {b t k : Nat} {cs : Array Value} {u : Value} (h : w.heap[b]? = some (.cells cs t (0, 0))) : (w.setCell ⟨b, k, none⟩ u).heap[b]? = some (.cells (cs.setIfInBounds k u) t (0, 0)) := by
  have hlt := lt_of_block h
  have h' : w.heap[b] = .cells cs t (0, 0) := by
    simpa [Array.getElem?_eq_getElem hlt] using h
  show (w.heap.modify b _)[b]? = _
  rw [Array.getElem?_eq_getElem (by simpa using hlt), Array.getElem_modify_self, h']
  simp
theorem blk3_0 {w : World} {b t : Nat} {x y z u : Value} (h : w.heap[b]? = some (.cells #[x, y, z] t (0, 0))) : (w.setCell ⟨b, 0, none⟩ u).heap[b]? = some (.cells #[u, y, z] t (0, 0)) := by
  have := blk3_set (k := 0) (u := u) h
  simpa using this
theorem blk3_1 {w : World} {b t : Nat} {x y z u : Value} (h : w.heap[b]? = some (.cells #[x, y, z] t (0, 0))) : (w.setCell ⟨b, 1, none⟩ u).heap[b]? = some (.cells #[x, u, z] t (0, 0)) := by
  have := blk3_set (k := 1) (u := u) h
  simpa using this
theorem blk3_2 {w : World} {b t : Nat} {x y z u : Value} (h : w.heap[b]? = some (.cells #[x, y, z] t (0, 0))) : (w.setCell ⟨b, 2, none⟩ u).heap[b]? = some (.cells #[x, y, u] t (0, 0)) := by
  have := blk3_set (k := 2) (u := u) h
  simpa using this
theorem heap_drew1 (w : World) : w.drew.heap = w.heap := rfl
theorem heap_drewN1 (w : World) (n : Nat) : (w.drewN n).heap = w.heap := rfl
theorem heap_alloc_at {w : World} {b : Nat} {o : Obj} (h : b = w.heap.size) : (w.alloc o).heap[b]? = some o := h ▸ heap_alloc_new w o
/-- Three stores into a block of three cells, read back. -/
theorem res3 {w : World} {b t : Nat} {a a' a'' : Value} (h : w.heap[b]? = some (.cells #[a, a', a''] t (0, 0))) (x y z : Value) :
    (((w.setCell ⟨b, 0, none⟩ x).setCell ⟨b, 1, none⟩ y).setCell ⟨b, 2, none⟩ z).cell? ⟨b, 0, none⟩ = some x ∧ (((w.setCell ⟨b, 0, none⟩ x).setCell ⟨b, 1, none⟩ y).setCell ⟨b, 2, none⟩ z).cell? ⟨b, 1, none⟩ = some y ∧
    (((w.setCell ⟨b, 0, none⟩ x).setCell ⟨b, 1, none⟩ y).setCell ⟨b, 2, none⟩ z).cell? ⟨b, 2, none⟩ = some z := by
  obtain ⟨h0, h1, h2, -⟩ := blk3 (blk3_2 (u := z) (blk3_1 (u := y) (blk3_0 (u := x) h)))
  exact ⟨h0, h1, h2⟩
theorem blk_other {w : World} {b c k : Nat} {u : Value} {o : Option Obj} (h : w.heap[b]? = o) (hne : b ≠ c) : (w.setCell ⟨c, k, none⟩ u).heap[b]? = o := (Below.heap_setCell _ _ _ _ hne).trans h
theorem blk_alloc {w : World} {b : Nat} {u : Obj} {o : Option Obj} (h : w.heap[b]? = o) (hne : b < w.heap.size) : (w.alloc u).heap[b]? = o := (Below.heap_alloc _ _ _ hne).trans h
theorem blk_below {w w' : World} {b B : Nat} {o : Option Obj} (h : w.heap[b]? = o) (hb : Below B w w') (hB : b < B) : w'.heap[b]? = o := (hb.block b hB).trans h
end Go.Proofs.Ytkipaefhnmfebaa
