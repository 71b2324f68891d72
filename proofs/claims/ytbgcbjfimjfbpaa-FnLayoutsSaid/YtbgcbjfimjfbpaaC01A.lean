/-
  Contracts of chapter 1: the bits of a number appended to a list.
-/
import Derived.Test.YtbgcbjfimjfbpaaSlice
import Derived.Test.YtbgcbjfimjfbpaaBits
namespace Go.Proofs.Ytbgcbjfimjfbpaa
open Go.RowKit

theorem info_own {P : Program} {e : TypeId} {z : Value} {size bytes : Nat} (h : (P.info? e).map (fun i => (i.zero, i.size, i.bytes)) = some (some z, size, bytes)) :
    ∃ i, P.info? e = some i ∧ i.zero = some z ∧ i.size = size ∧ i.bytes = bytes := info_parts h
end Go.Proofs.Ytbgcbjfimjfbpaa
