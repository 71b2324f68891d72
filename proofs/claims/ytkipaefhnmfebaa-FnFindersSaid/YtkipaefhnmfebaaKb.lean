/-
  Blocks that stay as they are while draws go on. Printed by gen/dco.py.
-/
import Derived.Test.YtkipaefhnmfebaaBx
namespace Go.Proofs.Ytkipaefhnmfebaa
set_option linter.unusedSimpArgs false
open Go.RowKit

/-- While draws go on: blocks that stay as they are. -/
structure KB (s : SP) (w0 : World) (l : List (Nat × Obj)) (w : World) : Prop where
  bx : BX s w0.heap.size w0 w
  inv : s.I w
  k : ∀ p ∈ l, w.heap[p.1]? = some p.2 ∧ p.1 ≠ s.b
section
variable {s : SP} {w0 w w' : World} {l l' : List (Nat × Obj)}
theorem KB.nil (h : s.I w) : KB s w [] w := ⟨BX.refl _ _ _, h, fun p hp => by cases hp⟩
theorem KB.step (h : KB s w0 l w) (hb : BX s w.heap.size w w') : KB s w0 l w' :=
  ⟨h.bx.trans (hb.mono h.bx.size), hb.inv h.inv, fun p hp => ⟨(hb.block _ (lt_of_block (h.k p hp).1) (h.k p hp).2).trans (h.k p hp).1, (h.k p hp).2⟩⟩
theorem KB.below (h : KB s w0 l w) (hb : Below w.heap.size w w') : KB s w0 l w' := h.step (BX.of_below hb (s.lt h.inv))
theorem KB.drew (h : KB s w0 l w) : KB s w0 l w.drew := h.below (Below.refl _ _).drew
theorem KB.drewN (h : KB s w0 l w) (m : Nat) : KB s w0 l (w.drewN m) := h.below (below_drewN' (Below.refl _ _) _)
theorem KB.push (h : KB s w0 l w) (cs : Array Value) (t : Nat) {b : Nat} (hb : w.heap.size = b) : KB s w0 ((b, .cells cs t (0, 0)) :: l) (w.alloc (.cells cs t)) := by
  have h1 := h.below ((Below.refl w.heap.size w).alloc (Nat.le_refl _) (.cells cs t))
  refine ⟨h1.bx, h1.inv, fun p hp => ?_⟩
  rcases List.mem_cons.1 hp with rfl | hp
  · subst hb
    exact ⟨heap_alloc_new _ _, by have := s.lt h.inv; simp; omega⟩
  · exact h1.k p hp
theorem KB.get (h : KB s w0 l w) {g : Nat} {o : Obj} (hm : (g, o) ∈ l) : w.heap[g]? = some o := (h.k _ hm).1
theorem KB.lt (h : KB s w0 l w) {g : Nat} {o : Obj} (hm : (g, o) ∈ l) : g < w.heap.size := lt_of_block (h.k _ hm).1
theorem KB.sub (h : KB s w0 l w) (hs : ∀ p ∈ l', p ∈ l) : KB s w0 l' w := ⟨h.bx, h.inv, fun p hp => h.k p (hs p hp)⟩
end
theorem KB.set2 {s : SP} {w0 w : World} {l : List (Nat × Obj)} {g t : Nat} {a b x y : Value} (h : KB s w0 ((g, .cells #[a, b] t (0, 0)) :: l) w) (hg : w0.heap.size ≤ g) (hb : s.b < g) (hl : ∀ p ∈ l, p.1 ≠ g) : KB s w0 ((g, .cells #[x, y] t (0, 0)) :: l) ((w.setCell ⟨g, 0, none⟩ x).setCell ⟨g, 1, none⟩ y) := by
  refine ⟨(h.bx.setCell (p := ⟨g, 0, none⟩) hg hb x).setCell (p := ⟨g, 1, none⟩) hg hb y, s.st (((Below.refl (s.b + 1) _).setCell (p := ⟨g, 0, none⟩) hb x).setCell (p := ⟨g, 1, none⟩) hb y) h.inv, fun p hp => ?_⟩
  rcases List.mem_cons.1 hp with rfl | hp
  · have h0 := (h.k _ List.mem_cons_self).1
    have h1 : (w.setCell ⟨g, 0, none⟩ x).heap[g]? = some (.cells #[x, b] t (0, 0)) := by simpa using blk3_set (k := 0) (u := x) h0
    exact ⟨by simpa using blk3_set (k := 1) (u := y) h1, by simp; omega⟩
  · have h0 := h.k p (List.mem_cons_of_mem _ hp)
    exact ⟨blk_other (blk_other h0.1 (hl p hp)) (hl p hp), h0.2⟩
theorem KB.two {s : SP} {w0 w : World} {l : List (Nat × Obj)} {g t : Nat} {a b : Value} (h : KB s w0 l w) (hm : (g, .cells #[a, b] t (0, 0)) ∈ l) : w.cell? ⟨g, 0, none⟩ = some a ∧ w.cell? ⟨g, 1, none⟩ = some b := by
  have h0 := h.get hm
  constructor <;> simp [World.cell?, h0]
theorem KB.free {s : SP} {w0 w : World} {l : List (Nat × Obj)} {g t : Nat} {a b : Value} (h : KB s w0 l w) (hm : (g, .cells #[a, b] t (0, 0)) ∈ l) (k : Nat) : w.frozen? ⟨g, k, none⟩ = false := by
  have h0 := h.get hm
  simp [World.frozen?, h0]
theorem KB.other {s : SP} {w0 w : World} {l : List (Nat × Obj)} (h : KB s w0 l w) {g k : Nat} {v : Value} (hg : w0.heap.size ≤ g) (hb : s.b < g) (hl : ∀ p ∈ l, p.1 ≠ g) : KB s w0 l (w.setCell ⟨g, k, none⟩ v) :=
  ⟨h.bx.setCell (p := ⟨g, k, none⟩) hg hb v, s.st ((Below.refl (s.b + 1) _).setCell (p := ⟨g, k, none⟩) hb v) h.inv, fun p hp => ⟨blk_other (h.k p hp).1 (hl p hp), (h.k p hp).2⟩⟩
end Go.Proofs.Ytkipaefhnmfebaa
