/-
  A map from numbers to numbers that a call makes: cleared; looked up behind a store.
-/
import Derived.Test.YtgokleeofcleiaaSlice
import Derived.Maps.Own
import Derived.Maps.OwnOps
import Derived.Maps.Views
namespace Go.Proofs.Ytgokleeofcleiaa
open Go.RowKit

/-- Block b is a map of at most n entries that reads as D. -/
def MapI (w : World) (b n : Nat) (D : DataW Unit) : Prop := w.ownsMap Try.prog 2 (plainElem Try.prog 2) b n D
theorem MapI.made (w : World) : MapI (w.alloc (.map #[] 0)) w.heap.size 0 (.map []) := World.ownsMap_made _ _ _ _
theorem MapI.kept {w w' : World} {b n : Nat} {D : DataW Unit} {row : Option Nat} (h : MapI w b n D) (hg : w.grownBy w' row) (hne : some b ≠ row) : MapI w' b n D := World.ownsMap.kept h hg hne
theorem MapI.below {w w' : World} {b n B : Nat} {D : DataW Unit} (h : MapI w b n D) (hb : Below B w w') (hB : b < B) : MapI w' b n D := by
  obtain ⟨es, clock, hh, F, hs, hD⟩ := h
  exact ⟨es, clock, (hb.block b hB).trans hh, F, hs, hD⟩
theorem MapI.setCell {w : World} {b n : Nat} {D : DataW Unit} (h : MapI w b n D) {p : Addr} (hp : b ≠ p.block) (u : Value) : MapI (w.setCell p u) b n D := by
  obtain ⟨es, clock, hh, F, hs, hD⟩ := h
  exact ⟨es, clock, (Below.heap_setCell w p u b hp).trans hh, F, hs, hD⟩
theorem MapI.clear {w : World} {b n : Nat} {D : DataW Unit} (h : MapI w b n D) :
    ∃ w', (∀ ty, (Builtin.clear_ #[114] ty #[.map (some b)]).run Try.prog w = .ok (.tuple #[]) w') ∧ MapI w' b 0 (.map []) ∧ w.grownBy w' (some b) := by
  obtain ⟨es, clock, hh, F, hs, hD⟩ := h
  have hlt : b < w.heap.size := (Array.getElem?_eq_some_iff.1 hh).1
  refine ⟨{ w with heap := w.heap.setIfInBounds b (.map #[] clock) }, fun ty => ?_, ⟨#[], clock, ?_, ⟨by simp, MapKept.stamped_empty clock, by simp⟩, Nat.le_refl _, rfl⟩, ⟨rfl, rfl, rfl, by simp, fun k hk hne => ?_⟩⟩
  · simp [Builtin.clear_, run_underlying Try.underlying114, MapKept.run_getObj_map hh, MapKept.run_setObj_map _ hh, Result.andThen]
  · simp [hlt]
  · have : k ≠ b := fun e => hne (by rw [e])
    simp [this.symm]
theorem put_at (d v z : Int) : ((DataW.map [] : DataW Unit).put (.int .i64 d) (.lit (.int .i64 v))).atKey (.int .i64 d) (.lit (.int .i64 z)) = .lit (.int .i64 v) :=
  Maps.atKey_put_same (k := .int .i64 d) Maps.isMap_empty (by simp [WideAt.IsKeyLit]) _ _
theorem zero_i64 (w : World) : (zeroValue 2).run Try.prog w = .ok (.int .i64 0) w := by kernel_rfl
end Go.Proofs.Ytgokleeofcleiaa
