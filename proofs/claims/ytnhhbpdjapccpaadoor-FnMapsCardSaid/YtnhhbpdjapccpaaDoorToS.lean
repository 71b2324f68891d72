/-
  The laws' copy of a slice of numbers.
-/
import Derived.Test.YtnhhbpdjapccpaaDoorSlice
namespace Go.Proofs.YtnhhbpdjapccpaaDoor
open Go.RowKit

theorem Own.made_zero {w : World} {B n : Nat} {v : Value} (h : w.ownsRow B 2 1 v n (madeCells (Value.int .i64 0).cells (n * 1)).toList) : Own w B v (List.replicate n 0) := by
  rw [show (Value.int .i64 0).cells = #[Value.int .i64 0] from rfl, Nat.mul_one, toList_madeCells_one] at h
  unfold Own
  simpa using h
theorem info_own' {P : Program} {e : TypeId} {z : Value} {size bytes : Nat} (h : (P.info? e).map (fun i => (i.zero, i.size, i.bytes)) = some (some z, size, bytes)) :
    ∃ i, P.info? e = some i ∧ i.zero = some z ∧ i.size = size ∧ i.bytes = bytes := info_parts h
end Go.Proofs.YtnhhbpdjapccpaaDoor
