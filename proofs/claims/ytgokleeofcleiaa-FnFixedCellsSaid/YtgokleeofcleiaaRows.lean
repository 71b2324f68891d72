/-
  No cell of these rows narrows 'for every input' (looked for: loops, veiled, ifaces, maps, wideKeys, modest, calm, conditions, laid).
  DERIVED. THE GIVEN ROWS OF THIS SEAT. 10 by the template 'for every input the law returns true; each argument reads behind the call as it read before'; 0 by the template 'total and deterministic' (their statements: YtgokleeofcleiaaTotals.lean).
  GIVEN WITH THE SEED: the statements are not yours to turn. If you find one false, say at which input.
  Laid BY PROGRAM, IN A SANDBOX (cutbox-rows.mjs): the forced cells as the released guide's own fill.sh prints them over the translation 2e4484485f5e76f9… (all of the seat's roots in one cut). By AI agents, Wed Nov 11 2026. No macro, syntax, notation, axiom, sorry.
-/
import Derived.Test.YtgokleeofcleiaaChecked
import GoSem.Claim
import GoSem.ClaimJoined
import GoSem.ClaimMapViews
import Derived.JoinedTies
import Derived.KernelRfl
namespace Go.Proofs.Ytgokleeofcleiaa
/- THE CELL 'sum', in the pinned program and in every row, IS THE sha256 OF THE DUMP (.gsa) THAT YtgokleeofcleiaaProg.lean LOADS. Nothing in Lean hashes anything: it is a label: what it is worth is what the hold of that sum in a sandbox is worth. -/
noncomputable def Try.pinned : Pinned := { name := "ytgokleeofcleiaa", sum := "2e4484485f5e76f963113751b5defaa50c1347a5145850ffcf27c31b5b5a4deb", checked := Try.checked }
namespace Rows
def none {H : Type} : Left H := { results := [], args := [] }

/-- 'laws.FnExactUnknownCells': WHATEVER THE INPUT: true; the input reads as it did. -/
def fnExactUnknownCellsSpec : ChangeSpec := { name := "fnExactUnknownCells", fn := fun _ => fun
  | [d] => { results := [.lit (.bool true)], args := [d] }
  | _ => none }
def fnExactUnknownCellsRow : OpenClaim := { program := "ytgokleeofcleiaa", sum := "2e4484485f5e76f963113751b5defaa50c1347a5145850ffcf27c31b5b5a4deb", func := "loop.example/g00879/laws.FnExactUnknownCells", spec := "fnExactUnknownCells", plainKeys := false, apart := false }
def FnExactUnknownCellsSaid : Prop := fnExactUnknownCellsRow.holds Try.pinned (OpenSpec.ofChange fnExactUnknownCellsSpec)

/-- ITS FALSE NEIGHBOUR: 'it returns false'. Refute it at one input. -/
def fnExactUnknownCellsWrong : ChangeSpec := { name := "fnExactUnknownCells", fn := fun _ => fun
  | [d] => { results := [.lit (.bool false)], args := [d] }
  | _ => none }
def FnExactUnknownCellsWrongFalsely : Prop := fnExactUnknownCellsRow.holds Try.pinned (OpenSpec.ofChange fnExactUnknownCellsWrong)

/-- 'laws.FnExactFixedGrid': WHATEVER THE INPUT: true; the input reads as it did. -/
def fnExactFixedGridSpec : ChangeSpec := { name := "fnExactFixedGrid", fn := fun _ => fun
  | [d] => { results := [.lit (.bool true)], args := [d] }
  | _ => none }
def fnExactFixedGridRow : OpenClaim := { program := "ytgokleeofcleiaa", sum := "2e4484485f5e76f963113751b5defaa50c1347a5145850ffcf27c31b5b5a4deb", func := "loop.example/g00879/laws.FnExactFixedGrid", spec := "fnExactFixedGrid", unfollowed := true, recurses := true, plainKeys := false, apart := false }
def FnExactFixedGridSaid : Prop := fnExactFixedGridRow.holds Try.pinned (OpenSpec.ofChange fnExactFixedGridSpec)

/-- ITS FALSE NEIGHBOUR: 'it returns false'. Refute it at one input. -/
def fnExactFixedGridWrong : ChangeSpec := { name := "fnExactFixedGrid", fn := fun _ => fun
  | [d] => { results := [.lit (.bool false)], args := [d] }
  | _ => none }
def FnExactFixedGridWrongFalsely : Prop := fnExactFixedGridRow.holds Try.pinned (OpenSpec.ofChange fnExactFixedGridWrong)

/-- 'laws.FnExactDataCount': WHATEVER THE INPUT: true; the input reads as it did. -/
def fnExactDataCountSpec : ChangeSpec := { name := "fnExactDataCount", fn := fun _ => fun
  | [d] => { results := [.lit (.bool true)], args := [d] }
  | _ => none }
def fnExactDataCountRow : OpenClaim := { program := "ytgokleeofcleiaa", sum := "2e4484485f5e76f963113751b5defaa50c1347a5145850ffcf27c31b5b5a4deb", func := "loop.example/g00879/laws.FnExactDataCount", spec := "fnExactDataCount", unfollowed := true, recurses := true, plainKeys := false, apart := false }
def FnExactDataCountSaid : Prop := fnExactDataCountRow.holds Try.pinned (OpenSpec.ofChange fnExactDataCountSpec)

/-- ITS FALSE NEIGHBOUR: 'it returns false'. Refute it at one input. -/
def fnExactDataCountWrong : ChangeSpec := { name := "fnExactDataCount", fn := fun _ => fun
  | [d] => { results := [.lit (.bool false)], args := [d] }
  | _ => none }
def FnExactDataCountWrongFalsely : Prop := fnExactDataCountRow.holds Try.pinned (OpenSpec.ofChange fnExactDataCountWrong)

/-- 'laws.FnExactFixedErrors': WHATEVER THE INPUT: true; the input reads as it did. -/
def fnExactFixedErrorsSpec : ChangeSpec := { name := "fnExactFixedErrors", fn := fun _ => fun
  | [d] => { results := [.lit (.bool true)], args := [d] }
  | _ => none }
def fnExactFixedErrorsRow : OpenClaim := { program := "ytgokleeofcleiaa", sum := "2e4484485f5e76f963113751b5defaa50c1347a5145850ffcf27c31b5b5a4deb", func := "loop.example/g00879/laws.FnExactFixedErrors", spec := "fnExactFixedErrors", unfollowed := true, recurses := true, plainKeys := false, apart := false }
def FnExactFixedErrorsSaid : Prop := fnExactFixedErrorsRow.holds Try.pinned (OpenSpec.ofChange fnExactFixedErrorsSpec)

/-- ITS FALSE NEIGHBOUR: 'it returns false'. Refute it at one input. -/
def fnExactFixedErrorsWrong : ChangeSpec := { name := "fnExactFixedErrors", fn := fun _ => fun
  | [d] => { results := [.lit (.bool false)], args := [d] }
  | _ => none }
def FnExactFixedErrorsWrongFalsely : Prop := fnExactFixedErrorsRow.holds Try.pinned (OpenSpec.ofChange fnExactFixedErrorsWrong)

/-- 'laws.FnExactPutFormat': WHATEVER THE INPUT: true; the input reads as it did. -/
def fnExactPutFormatSpec : ChangeSpec := { name := "fnExactPutFormat", fn := fun _ => fun
  | [d1, d2] => { results := [.lit (.bool true)], args := [d1, d2] }
  | _ => none }
def fnExactPutFormatRow : OpenClaim := { program := "ytgokleeofcleiaa", sum := "2e4484485f5e76f963113751b5defaa50c1347a5145850ffcf27c31b5b5a4deb", func := "loop.example/g00879/laws.FnExactPutFormat", spec := "fnExactPutFormat", plainKeys := false, apart := false }
def FnExactPutFormatSaid : Prop := fnExactPutFormatRow.holds Try.pinned (OpenSpec.ofChange fnExactPutFormatSpec)

/-- ITS FALSE NEIGHBOUR: 'it returns false'. Refute it at one input. -/
def fnExactPutFormatWrong : ChangeSpec := { name := "fnExactPutFormat", fn := fun _ => fun
  | [d1, d2] => { results := [.lit (.bool false)], args := [d1, d2] }
  | _ => none }
def FnExactPutFormatWrongFalsely : Prop := fnExactPutFormatRow.holds Try.pinned (OpenSpec.ofChange fnExactPutFormatWrong)

/-- 'laws.FnFixedCells': WHATEVER THE INPUT: true; the input reads as it did. -/
def fnFixedCellsSpec : ChangeSpec := { name := "fnFixedCells", fn := fun _ => fun
  | [d] => { results := [.lit (.bool true)], args := [d] }
  | _ => none }
def fnFixedCellsRow : OpenClaim := { program := "ytgokleeofcleiaa", sum := "2e4484485f5e76f963113751b5defaa50c1347a5145850ffcf27c31b5b5a4deb", func := "loop.example/g00879/laws.FnFixedCells", spec := "fnFixedCells", unfollowed := true, recurses := true, plainKeys := false, apart := false }
def FnFixedCellsSaid : Prop := fnFixedCellsRow.holds Try.pinned (OpenSpec.ofChange fnFixedCellsSpec)

/-- ITS FALSE NEIGHBOUR: 'it returns false'. Refute it at one input. -/
def fnFixedCellsWrong : ChangeSpec := { name := "fnFixedCells", fn := fun _ => fun
  | [d] => { results := [.lit (.bool false)], args := [d] }
  | _ => none }
def FnFixedCellsWrongFalsely : Prop := fnFixedCellsRow.holds Try.pinned (OpenSpec.ofChange fnFixedCellsWrong)

/-- 'laws.FnExactReadFormat': WHATEVER THE INPUT: true; the input reads as it did. -/
def fnExactReadFormatSpec : ChangeSpec := { name := "fnExactReadFormat", fn := fun _ => fun
  | [d] => { results := [.lit (.bool true)], args := [d] }
  | _ => none }
def fnExactReadFormatRow : OpenClaim := { program := "ytgokleeofcleiaa", sum := "2e4484485f5e76f963113751b5defaa50c1347a5145850ffcf27c31b5b5a4deb", func := "loop.example/g00879/laws.FnExactReadFormat", spec := "fnExactReadFormat", plainKeys := false, apart := false }
def FnExactReadFormatSaid : Prop := fnExactReadFormatRow.holds Try.pinned (OpenSpec.ofChange fnExactReadFormatSpec)

/-- ITS FALSE NEIGHBOUR: 'it returns false'. Refute it at one input. -/
def fnExactReadFormatWrong : ChangeSpec := { name := "fnExactReadFormat", fn := fun _ => fun
  | [d] => { results := [.lit (.bool false)], args := [d] }
  | _ => none }
def FnExactReadFormatWrongFalsely : Prop := fnExactReadFormatRow.holds Try.pinned (OpenSpec.ofChange fnExactReadFormatWrong)

/-- 'laws.FnExactDataPlaces': WHATEVER THE INPUT: true; the input reads as it did. -/
def fnExactDataPlacesSpec : ChangeSpec := { name := "fnExactDataPlaces", fn := fun _ => fun
  | [d] => { results := [.lit (.bool true)], args := [d] }
  | _ => none }
def fnExactDataPlacesRow : OpenClaim := { program := "ytgokleeofcleiaa", sum := "2e4484485f5e76f963113751b5defaa50c1347a5145850ffcf27c31b5b5a4deb", func := "loop.example/g00879/laws.FnExactDataPlaces", spec := "fnExactDataPlaces", unfollowed := true, recurses := true, plainKeys := false, apart := false }
def FnExactDataPlacesSaid : Prop := fnExactDataPlacesRow.holds Try.pinned (OpenSpec.ofChange fnExactDataPlacesSpec)

/-- ITS FALSE NEIGHBOUR: 'it returns false'. Refute it at one input. -/
def fnExactDataPlacesWrong : ChangeSpec := { name := "fnExactDataPlaces", fn := fun _ => fun
  | [d] => { results := [.lit (.bool false)], args := [d] }
  | _ => none }
def FnExactDataPlacesWrongFalsely : Prop := fnExactDataPlacesRow.holds Try.pinned (OpenSpec.ofChange fnExactDataPlacesWrong)

/-- 'laws.FnExactPlaceIndex': WHATEVER THE INPUT: true; the input reads as it did. -/
def fnExactPlaceIndexSpec : ChangeSpec := { name := "fnExactPlaceIndex", fn := fun _ => fun
  | [d1, d2] => { results := [.lit (.bool true)], args := [d1, d2] }
  | _ => none }
def fnExactPlaceIndexRow : OpenClaim := { program := "ytgokleeofcleiaa", sum := "2e4484485f5e76f963113751b5defaa50c1347a5145850ffcf27c31b5b5a4deb", func := "loop.example/g00879/laws.FnExactPlaceIndex", spec := "fnExactPlaceIndex", unfollowed := true, recurses := true, plainKeys := false, apart := false }
def FnExactPlaceIndexSaid : Prop := fnExactPlaceIndexRow.holds Try.pinned (OpenSpec.ofChange fnExactPlaceIndexSpec)

/-- ITS FALSE NEIGHBOUR: 'it returns false'. Refute it at one input. -/
def fnExactPlaceIndexWrong : ChangeSpec := { name := "fnExactPlaceIndex", fn := fun _ => fun
  | [d1, d2] => { results := [.lit (.bool false)], args := [d1, d2] }
  | _ => none }
def FnExactPlaceIndexWrongFalsely : Prop := fnExactPlaceIndexRow.holds Try.pinned (OpenSpec.ofChange fnExactPlaceIndexWrong)

/-- 'laws.FnExactElementPlaces': WHATEVER THE INPUT: true; the input reads as it did. -/
def fnExactElementPlacesSpec : ChangeSpec := { name := "fnExactElementPlaces", fn := fun _ => fun
  | [d1, d2, d3] => { results := [.lit (.bool true)], args := [d1, d2, d3] }
  | _ => none }
def fnExactElementPlacesRow : OpenClaim := { program := "ytgokleeofcleiaa", sum := "2e4484485f5e76f963113751b5defaa50c1347a5145850ffcf27c31b5b5a4deb", func := "loop.example/g00879/laws.FnExactElementPlaces", spec := "fnExactElementPlaces", unfollowed := true, recurses := true, plainKeys := false, apart := false }
def FnExactElementPlacesSaid : Prop := fnExactElementPlacesRow.holds Try.pinned (OpenSpec.ofChange fnExactElementPlacesSpec)

/-- ITS FALSE NEIGHBOUR: 'it returns false'. Refute it at one input. -/
def fnExactElementPlacesWrong : ChangeSpec := { name := "fnExactElementPlaces", fn := fun _ => fun
  | [d1, d2, d3] => { results := [.lit (.bool false)], args := [d1, d2, d3] }
  | _ => none }
def FnExactElementPlacesWrongFalsely : Prop := fnExactElementPlacesRow.holds Try.pinned (OpenSpec.ofChange fnExactElementPlacesWrong)

/- THE SECOND FORM. 'bulk': how many values and letters a reading holds, each counted each time it is reached (what is shared counts as often as it is met; a slice's spare places count too). A statement '..UptoSaid' is the law's where the arguments, and the package variables that the reading takes, are together of bulk at most 1048576: NARROWER than '..Said'. Prove '..Said' where nothing that the law and all that it calls make is longer than what came in: it says more and counts as full. Else prove '..UptoSaid'. A law counts once. -/
mutual
def uptoBulk {H : Type} : DataW H → Nat
  | .lit (.string bytes) => bytes.length + 1
  | .lit _ => 1
  | .nil => 1
  | .ptr d => uptoBulk d + 1
  | .slice elems spare => uptoBulkAll elems + uptoBulkAll spare + 1
  | .agg parts => uptoBulkAll parts + 1
  | .iface _ d => uptoBulk d + 1
  | .map entries => uptoBulkEntries entries + 1
  | .held _ => 1
def uptoBulkAll {H : Type} : List (DataW H) → Nat
  | [] => 0
  | d :: r => uptoBulk d + uptoBulkAll r
def uptoBulkEntries {H : Type} : List (Lit × DataW H) → Nat
  | [] => 0
  | x :: r => uptoBulkEntry x + uptoBulkEntries r
def uptoBulkEntry {H : Type} : Lit × DataW H → Nat
  | (.string bytes, d) => bytes.length + uptoBulk d + 1
  | (_, d) => uptoBulk d + 1
 end
def uptoSmall : (H : Type) → List (DataW H) → Bool := fun _ ds => decide (uptoBulkAll ds ≤ 1048576)
def OpenSpec.upto (s : _root_.Go.ChangeSpec) : _root_.Go.OpenSpec := { _root_.Go.OpenSpec.ofChange s with cond := some uptoSmall }

/-- 'laws.FnExactUnknownCells', WHERE WHAT IT READS IS OF BULK AT MOST 1048576: true; the input reads as it did. -/
def fnExactUnknownCellsUptoRow : OpenClaim := { program := "ytgokleeofcleiaa", sum := "2e4484485f5e76f963113751b5defaa50c1347a5145850ffcf27c31b5b5a4deb", func := "loop.example/g00879/laws.FnExactUnknownCells", spec := "fnExactUnknownCells", plainKeys := false, apart := false, narrowed := true }
def FnExactUnknownCellsUptoSaid : Prop := fnExactUnknownCellsUptoRow.holds Try.pinned (OpenSpec.upto fnExactUnknownCellsSpec)

/-- 'laws.FnExactFixedGrid', WHERE WHAT IT READS IS OF BULK AT MOST 1048576: true; the input reads as it did. -/
def fnExactFixedGridUptoRow : OpenClaim := { program := "ytgokleeofcleiaa", sum := "2e4484485f5e76f963113751b5defaa50c1347a5145850ffcf27c31b5b5a4deb", func := "loop.example/g00879/laws.FnExactFixedGrid", spec := "fnExactFixedGrid", unfollowed := true, recurses := true, plainKeys := false, apart := false, narrowed := true }
def FnExactFixedGridUptoSaid : Prop := fnExactFixedGridUptoRow.holds Try.pinned (OpenSpec.upto fnExactFixedGridSpec)

/-- 'laws.FnExactDataCount', WHERE WHAT IT READS IS OF BULK AT MOST 1048576: true; the input reads as it did. -/
def fnExactDataCountUptoRow : OpenClaim := { program := "ytgokleeofcleiaa", sum := "2e4484485f5e76f963113751b5defaa50c1347a5145850ffcf27c31b5b5a4deb", func := "loop.example/g00879/laws.FnExactDataCount", spec := "fnExactDataCount", unfollowed := true, recurses := true, plainKeys := false, apart := false, narrowed := true }
def FnExactDataCountUptoSaid : Prop := fnExactDataCountUptoRow.holds Try.pinned (OpenSpec.upto fnExactDataCountSpec)

/-- 'laws.FnExactFixedErrors', WHERE WHAT IT READS IS OF BULK AT MOST 1048576: true; the input reads as it did. -/
def fnExactFixedErrorsUptoRow : OpenClaim := { program := "ytgokleeofcleiaa", sum := "2e4484485f5e76f963113751b5defaa50c1347a5145850ffcf27c31b5b5a4deb", func := "loop.example/g00879/laws.FnExactFixedErrors", spec := "fnExactFixedErrors", unfollowed := true, recurses := true, plainKeys := false, apart := false, narrowed := true }
def FnExactFixedErrorsUptoSaid : Prop := fnExactFixedErrorsUptoRow.holds Try.pinned (OpenSpec.upto fnExactFixedErrorsSpec)

/-- 'laws.FnExactPutFormat', WHERE WHAT IT READS IS OF BULK AT MOST 1048576: true; the input reads as it did. -/
def fnExactPutFormatUptoRow : OpenClaim := { program := "ytgokleeofcleiaa", sum := "2e4484485f5e76f963113751b5defaa50c1347a5145850ffcf27c31b5b5a4deb", func := "loop.example/g00879/laws.FnExactPutFormat", spec := "fnExactPutFormat", plainKeys := false, apart := false, narrowed := true }
def FnExactPutFormatUptoSaid : Prop := fnExactPutFormatUptoRow.holds Try.pinned (OpenSpec.upto fnExactPutFormatSpec)

/-- 'laws.FnFixedCells', WHERE WHAT IT READS IS OF BULK AT MOST 1048576: true; the input reads as it did. -/
def fnFixedCellsUptoRow : OpenClaim := { program := "ytgokleeofcleiaa", sum := "2e4484485f5e76f963113751b5defaa50c1347a5145850ffcf27c31b5b5a4deb", func := "loop.example/g00879/laws.FnFixedCells", spec := "fnFixedCells", unfollowed := true, recurses := true, plainKeys := false, apart := false, narrowed := true }
def FnFixedCellsUptoSaid : Prop := fnFixedCellsUptoRow.holds Try.pinned (OpenSpec.upto fnFixedCellsSpec)

/-- 'laws.FnExactReadFormat', WHERE WHAT IT READS IS OF BULK AT MOST 1048576: true; the input reads as it did. -/
def fnExactReadFormatUptoRow : OpenClaim := { program := "ytgokleeofcleiaa", sum := "2e4484485f5e76f963113751b5defaa50c1347a5145850ffcf27c31b5b5a4deb", func := "loop.example/g00879/laws.FnExactReadFormat", spec := "fnExactReadFormat", plainKeys := false, apart := false, narrowed := true }
def FnExactReadFormatUptoSaid : Prop := fnExactReadFormatUptoRow.holds Try.pinned (OpenSpec.upto fnExactReadFormatSpec)

/-- 'laws.FnExactDataPlaces', WHERE WHAT IT READS IS OF BULK AT MOST 1048576: true; the input reads as it did. -/
def fnExactDataPlacesUptoRow : OpenClaim := { program := "ytgokleeofcleiaa", sum := "2e4484485f5e76f963113751b5defaa50c1347a5145850ffcf27c31b5b5a4deb", func := "loop.example/g00879/laws.FnExactDataPlaces", spec := "fnExactDataPlaces", unfollowed := true, recurses := true, plainKeys := false, apart := false, narrowed := true }
def FnExactDataPlacesUptoSaid : Prop := fnExactDataPlacesUptoRow.holds Try.pinned (OpenSpec.upto fnExactDataPlacesSpec)

/-- 'laws.FnExactPlaceIndex', WHERE WHAT IT READS IS OF BULK AT MOST 1048576: true; the input reads as it did. -/
def fnExactPlaceIndexUptoRow : OpenClaim := { program := "ytgokleeofcleiaa", sum := "2e4484485f5e76f963113751b5defaa50c1347a5145850ffcf27c31b5b5a4deb", func := "loop.example/g00879/laws.FnExactPlaceIndex", spec := "fnExactPlaceIndex", unfollowed := true, recurses := true, plainKeys := false, apart := false, narrowed := true }
def FnExactPlaceIndexUptoSaid : Prop := fnExactPlaceIndexUptoRow.holds Try.pinned (OpenSpec.upto fnExactPlaceIndexSpec)

/-- 'laws.FnExactElementPlaces', WHERE WHAT IT READS IS OF BULK AT MOST 1048576: true; the input reads as it did. -/
def fnExactElementPlacesUptoRow : OpenClaim := { program := "ytgokleeofcleiaa", sum := "2e4484485f5e76f963113751b5defaa50c1347a5145850ffcf27c31b5b5a4deb", func := "loop.example/g00879/laws.FnExactElementPlaces", spec := "fnExactElementPlaces", unfollowed := true, recurses := true, plainKeys := false, apart := false, narrowed := true }
def FnExactElementPlacesUptoSaid : Prop := fnExactElementPlacesUptoRow.holds Try.pinned (OpenSpec.upto fnExactElementPlacesSpec)

end Rows
end Go.Proofs.Ytgokleeofcleiaa
