/-
  Contracts of chapter 14: which grids are valid, matrix sizes.
-/
import Derived.Test.YtffcjmnldmjocaaC01
import Derived.Test.YtffcjmnldmjocaaLst
namespace Go.Proofs.Ytffcjmnldmjocaa
set_option linter.unusedSimpArgs false
open Go.RowKit



end Go.Proofs.Ytffcjmnldmjocaa
