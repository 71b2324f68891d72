/-
  Maps from places that a call makes: to bools, to numbers.
-/
import Derived.Test.YtkipaefhnmfebaaPlc
import Derived.Test.YtkipaefhnmfebaaFrame
import Derived.DeepKeys4
import Derived.Maps.Own
import Derived.Maps.OwnOps
import Derived.Maps.OwnSet
import Derived.Maps.Views
namespace Go.Proofs.Ytkipaefhnmfebaa
open Go.RowKit

def I64 (n : Int) : Prop := -9223372036854775808 ≤ n ∧ n ≤ 9223372036854775807
end Go.Proofs.Ytkipaefhnmfebaa
