/-
  Slices of spots that a call has made: they own their cells, two a spot.
-/
import Derived.Test.YtnhhbpdjapccpaaPlc
namespace Go.Proofs.Ytnhhbpdjapccpaa
open Go.RowKit

/-- The slice value v owns the spots ps; its block has a number from B on. -/
def OwnQ (w : World) (B : Nat) (v : Value) (ps : List (Int × Int)) : Prop := w.ownsRow B 38 2 v ps.length (pc ps)
theorem info_spots : (Try.prog.info? 38).map (fun i => (i.zero, i.size, i.bytes)) = some (some (.agg #[.int .i64 0, .int .i64 0]), 2, 16) := by kernel_rfl
section
variable {w w' : World} {B B' : Nat} {v v1 v2 : Value} {ps qs : List (Int × Int)}
theorem OwnQ.keep (h : OwnQ w B v ps) (hb : Below w.heap.size w w') : OwnQ w' B v ps := by
  refine ⟨h.1, ?_⟩
  rcases h.2 with h' | ⟨g, cap, cur, rfl, hB, hg, hr⟩
  · exact .inl h'
  · exact .inr ⟨g, cap, cur, rfl, hB, (hb.block g (lt_of_block hg)).trans hg, hr⟩
theorem OwnQ.more (h : OwnQ w B v ps) (hB : B' ≤ B) : OwnQ w B' v ps := by
  refine ⟨h.1, ?_⟩
  rcases h.2 with h' | ⟨g, cap, cur, rfl, hB', hg, hr⟩
  · exact .inl h'
  · exact .inr ⟨g, cap, cur, rfl, by omega, hg, hr⟩
theorem OwnQ.setLt (h : OwnQ w B v ps) {p : Addr} (hp : p.block < B) (u : Value) : OwnQ (w.setCell p u) B v ps := by
  refine ⟨h.1, ?_⟩
  rcases h.2 with h' | ⟨g, cap, cur, rfl, hB, hg, hr⟩
  · exact .inl h'
  · exact .inr ⟨g, cap, cur, rfl, hB, (Below.heap_setCell _ _ _ _ (by omega)).trans hg, hr⟩
theorem OwnQ.setNew (h : OwnQ w B v ps) {p : Addr} (hp : w.heap.size ≤ p.block) (u : Value) : OwnQ (w.setCell p u) B v ps := by
  refine ⟨h.1, ?_⟩
  rcases h.2 with h' | ⟨g, cap, cur, rfl, hB, hg, hr⟩
  · exact .inl h'
  · exact .inr ⟨g, cap, cur, rfl, hB, (Below.heap_setCell _ _ _ _ (by have := lt_of_block hg; omega)).trans hg, hr⟩
theorem OwnQ.setAt (h : OwnQ w B v ps) {g : Nat} (hg : ∀ k, v.ownBlock = some k → k < g) {p : Addr} (hp : p.block = g) (u : Value) : OwnQ (w.setCell p u) B v ps := by
  refine ⟨h.1, ?_⟩
  rcases h.2 with h' | ⟨g', cap, cur, rfl, hB, hg', hr⟩
  · exact .inl h'
  · exact .inr ⟨g', cap, cur, rfl, hB, (Below.heap_setCell _ _ _ _ (by have := hg g' rfl; omega)).trans hg', hr⟩
theorem OwnQ.lt (h : OwnQ w B v ps) : ∀ k, v.ownBlock = some k → k < w.heap.size := fun k hk => (World.ownsRow.lt h k hk).2
theorem OwnQ.to (h : OwnQ w B v ps) (e : ps = qs) : OwnQ w B v qs := e ▸ h
theorem OwnQ.nil : OwnQ w B (.slice none 0 0) [] := World.ownsRow_nil _ _ _ _
theorem OwnQ.alloc (h : OwnQ w B v ps) (o : Obj) : OwnQ (w.alloc o) B v ps := World.ownsRow.alloc h o
theorem OwnQ.snoc {m : Nat} (h : w.ownsRow B 38 2 v (ps.length + m) (pc ps ++ pc qs)) (hm : m = qs.length) : OwnQ w B v (ps ++ qs) := by
  subst hm
  unfold OwnQ
  rw [List.length_append, pc_append]
  exact h
theorem OwnQ.rows (h : OwnQ w B v ps) : ∀ k, v.ownBlock = some k → B ≤ k := fun k hk => (World.ownsRow.lt h k hk).1
theorem OwnQ.below_grown {a : World} {o : Obj} (h : OwnQ w B v ps) (hb : Below B a w) (hB : B ≤ w.heap.size) (hg : (w.alloc o).grownBy w' v.ownBlock) : Below B a w' :=
  (hb.alloc hB o).grown hg (own_base hB) h.rows
theorem own_maxQ {n m : Nat} (hn : n ≤ 100000) (hm : m ≤ 100000) : n + m ≤ maxLen := by unfold maxLen; omega
theorem own_bytesQ {n m : Nat} (hn : n ≤ 100000) (hm : m ≤ 100000) : (n + m) * 16 ≤ 140737488355328 := by omega
theorem OwnQ.empty (w : World) (hB : B ≤ w.heap.size) : OwnQ (w.alloc (.cells #[] 38)) B (.slice (some ⟨w.heap.size, 0, none⟩) 0 0) [] := by
  have := World.ownsRow_made (e := 38) (size := 2) (base := B) w #[] 0 hB (by unfold maxLen; omega) rfl
  unfold OwnQ
  simpa [pc] using this
/-- The cells of an owned slice of spots. -/
theorem OwnQ.cells (h : OwnQ w B v ps) (h0 : 0 < ps.length) : ∃ g c, v = .slice (some ⟨g, 0, none⟩) ps.length c ∧ B ≤ g ∧ g < w.heap.size ∧
    ∀ k, k < ps.length → w.cell? ⟨g, k * 2, none⟩ = some (.int .i64 (nthP ps k).1) ∧ w.cell? ⟨g, k * 2 + 1, none⟩ = some (.int .i64 (nthP ps k).2) := by
  rcases h.2 with ⟨rfl, h0'⟩ | ⟨g, cap, cur, rfl, hB, hg, hr⟩
  · omega
  · have hf : w.ownsRow B 38 2 (.slice (some ⟨g, 0, none⟩) ps.length cap) ps.length (pc ps) := h
    refine ⟨g, cap, rfl, hB, lt_of_block hg, fun k hk => ?_⟩
    have := pc_at hk
    exact ⟨(hf.cellAt _ (by omega)).trans this.1, (hf.cellAt _ (by omega)).trans this.2⟩
end
end Go.Proofs.Ytnhhbpdjapccpaa
