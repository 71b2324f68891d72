/-
  No cell of these rows narrows 'for every input' (looked for: loops, veiled, ifaces, maps, wideKeys, modest, calm, conditions, laid).
  DERIVED. THE GIVEN ROWS OF THIS SEAT. 8 by the template 'for every input the law returns true; each argument reads behind the call as it read before'; 0 by the template 'total and deterministic' (their statements: YteghpageamehkaaTotals.lean).
  GIVEN WITH THE SEED: the statements are not yours to turn. If you find one false, say at which input.
  Laid BY PROGRAM, IN A SANDBOX (cutbox-rows.mjs): the forced cells as the released guide's own fill.sh prints them over the translation 84a6b2a297b897a0… (all of the seat's roots in one cut). By AI agents, Wed Nov 11 2026. No macro, syntax, notation, axiom, sorry.
-/
import Derived.Test.YteghpageamehkaaChecked
import GoSem.Claim
import GoSem.ClaimJoined
import GoSem.ClaimMapViews
import Derived.JoinedTies
import Derived.KernelRfl
namespace Go.Proofs.Yteghpageamehkaa
/- THE CELL 'sum', in the pinned program and in every row, IS THE sha256 OF THE DUMP (.gsa) THAT YteghpageamehkaaProg.lean LOADS. Nothing in Lean hashes anything: it is a label: what it is worth is what the hold of that sum in a sandbox is worth. -/
noncomputable def Try.pinned : Pinned := { name := "yteghpageamehkaa", sum := "84a6b2a297b897a023158d24217a0ea2e37001c7c06dc1df060c55fe4bd1959e", checked := Try.checked }
namespace Rows
def none {H : Type} : Left H := { results := [], args := [] }

/-- 'laws.FnPlaceOrder': WHATEVER THE INPUT: true; the input reads as it did. -/
def fnPlaceOrderSpec : ChangeSpec := { name := "fnPlaceOrder", fn := fun _ => fun
  | [d] => { results := [.lit (.bool true)], args := [d] }
  | _ => none }
def fnPlaceOrderRow : OpenClaim := { program := "yteghpageamehkaa", sum := "84a6b2a297b897a023158d24217a0ea2e37001c7c06dc1df060c55fe4bd1959e", func := "loop.example/g00879/laws.FnPlaceOrder", spec := "fnPlaceOrder", unfollowed := true, recurses := true, plainKeys := false, apart := false }
def FnPlaceOrderSaid : Prop := fnPlaceOrderRow.holds Try.pinned (OpenSpec.ofChange fnPlaceOrderSpec)

/-- ITS FALSE NEIGHBOUR: 'it returns false'. Refute it at one input. -/
def fnPlaceOrderWrong : ChangeSpec := { name := "fnPlaceOrder", fn := fun _ => fun
  | [d] => { results := [.lit (.bool false)], args := [d] }
  | _ => none }
def FnPlaceOrderWrongFalsely : Prop := fnPlaceOrderRow.holds Try.pinned (OpenSpec.ofChange fnPlaceOrderWrong)

/-- 'laws.FnExactPlaceElements': WHATEVER THE INPUT: true; the input reads as it did. -/
def fnExactPlaceElementsSpec : ChangeSpec := { name := "fnExactPlaceElements", fn := fun _ => fun
  | [d1, d2, d3] => { results := [.lit (.bool true)], args := [d1, d2, d3] }
  | _ => none }
def fnExactPlaceElementsRow : OpenClaim := { program := "yteghpageamehkaa", sum := "84a6b2a297b897a023158d24217a0ea2e37001c7c06dc1df060c55fe4bd1959e", func := "loop.example/g00879/laws.FnExactPlaceElements", spec := "fnExactPlaceElements", unfollowed := true, recurses := true, plainKeys := false, apart := false }
def FnExactPlaceElementsSaid : Prop := fnExactPlaceElementsRow.holds Try.pinned (OpenSpec.ofChange fnExactPlaceElementsSpec)

/-- ITS FALSE NEIGHBOUR: 'it returns false'. Refute it at one input. -/
def fnExactPlaceElementsWrong : ChangeSpec := { name := "fnExactPlaceElements", fn := fun _ => fun
  | [d1, d2, d3] => { results := [.lit (.bool false)], args := [d1, d2, d3] }
  | _ => none }
def FnExactPlaceElementsWrongFalsely : Prop := fnExactPlaceElementsRow.holds Try.pinned (OpenSpec.ofChange fnExactPlaceElementsWrong)

/-- 'laws.FnExactTouchedElements': WHATEVER THE INPUT: true; the input reads as it did. -/
def fnExactTouchedElementsSpec : ChangeSpec := { name := "fnExactTouchedElements", fn := fun _ => fun
  | [d1, d2, d3] => { results := [.lit (.bool true)], args := [d1, d2, d3] }
  | _ => none }
def fnExactTouchedElementsRow : OpenClaim := { program := "yteghpageamehkaa", sum := "84a6b2a297b897a023158d24217a0ea2e37001c7c06dc1df060c55fe4bd1959e", func := "loop.example/g00879/laws.FnExactTouchedElements", spec := "fnExactTouchedElements", unfollowed := true, recurses := true, plainKeys := false, apart := false }
def FnExactTouchedElementsSaid : Prop := fnExactTouchedElementsRow.holds Try.pinned (OpenSpec.ofChange fnExactTouchedElementsSpec)

/-- ITS FALSE NEIGHBOUR: 'it returns false'. Refute it at one input. -/
def fnExactTouchedElementsWrong : ChangeSpec := { name := "fnExactTouchedElements", fn := fun _ => fun
  | [d1, d2, d3] => { results := [.lit (.bool false)], args := [d1, d2, d3] }
  | _ => none }
def FnExactTouchedElementsWrongFalsely : Prop := fnExactTouchedElementsRow.holds Try.pinned (OpenSpec.ofChange fnExactTouchedElementsWrong)

/-- 'laws.FnExactTakeElements': WHATEVER THE INPUT: true; the input reads as it did. -/
def fnExactTakeElementsSpec : ChangeSpec := { name := "fnExactTakeElements", fn := fun _ => fun
  | [d1, d2] => { results := [.lit (.bool true)], args := [d1, d2] }
  | _ => none }
def fnExactTakeElementsRow : OpenClaim := { program := "yteghpageamehkaa", sum := "84a6b2a297b897a023158d24217a0ea2e37001c7c06dc1df060c55fe4bd1959e", func := "loop.example/g00879/laws.FnExactTakeElements", spec := "fnExactTakeElements", unfollowed := true, recurses := true, plainKeys := false, apart := false }
def FnExactTakeElementsSaid : Prop := fnExactTakeElementsRow.holds Try.pinned (OpenSpec.ofChange fnExactTakeElementsSpec)

/-- ITS FALSE NEIGHBOUR: 'it returns false'. Refute it at one input. -/
def fnExactTakeElementsWrong : ChangeSpec := { name := "fnExactTakeElements", fn := fun _ => fun
  | [d1, d2] => { results := [.lit (.bool false)], args := [d1, d2] }
  | _ => none }
def FnExactTakeElementsWrongFalsely : Prop := fnExactTakeElementsRow.holds Try.pinned (OpenSpec.ofChange fnExactTakeElementsWrong)

/-- 'laws.FnExactApplyMask': WHATEVER THE INPUT: true; the input reads as it did. -/
def fnExactApplyMaskSpec : ChangeSpec := { name := "fnExactApplyMask", fn := fun _ => fun
  | [d1, d2] => { results := [.lit (.bool true)], args := [d1, d2] }
  | _ => none }
def fnExactApplyMaskRow : OpenClaim := { program := "yteghpageamehkaa", sum := "84a6b2a297b897a023158d24217a0ea2e37001c7c06dc1df060c55fe4bd1959e", func := "loop.example/g00879/laws.FnExactApplyMask", spec := "fnExactApplyMask", unfollowed := true, recurses := true, plainKeys := false, apart := false }
def FnExactApplyMaskSaid : Prop := fnExactApplyMaskRow.holds Try.pinned (OpenSpec.ofChange fnExactApplyMaskSpec)

/-- ITS FALSE NEIGHBOUR: 'it returns false'. Refute it at one input. -/
def fnExactApplyMaskWrong : ChangeSpec := { name := "fnExactApplyMask", fn := fun _ => fun
  | [d1, d2] => { results := [.lit (.bool false)], args := [d1, d2] }
  | _ => none }
def FnExactApplyMaskWrongFalsely : Prop := fnExactApplyMaskRow.holds Try.pinned (OpenSpec.ofChange fnExactApplyMaskWrong)

/-- 'laws.FnPlaced': WHATEVER THE INPUT: true; the input reads as it did. -/
def fnPlacedSpec : ChangeSpec := { name := "fnPlaced", fn := fun _ => fun
  | [d] => { results := [.lit (.bool true)], args := [d] }
  | _ => none }
def fnPlacedRow : OpenClaim := { program := "yteghpageamehkaa", sum := "84a6b2a297b897a023158d24217a0ea2e37001c7c06dc1df060c55fe4bd1959e", func := "loop.example/g00879/laws.FnPlaced", spec := "fnPlaced", unfollowed := true, recurses := true, plainKeys := false, apart := false }
def FnPlacedSaid : Prop := fnPlacedRow.holds Try.pinned (OpenSpec.ofChange fnPlacedSpec)

/-- ITS FALSE NEIGHBOUR: 'it returns false'. Refute it at one input. -/
def fnPlacedWrong : ChangeSpec := { name := "fnPlaced", fn := fun _ => fun
  | [d] => { results := [.lit (.bool false)], args := [d] }
  | _ => none }
def FnPlacedWrongFalsely : Prop := fnPlacedRow.holds Try.pinned (OpenSpec.ofChange fnPlacedWrong)

/-- 'laws.FnTouched': WHATEVER THE INPUT: true; the input reads as it did. -/
def fnTouchedSpec : ChangeSpec := { name := "fnTouched", fn := fun _ => fun
  | [d] => { results := [.lit (.bool true)], args := [d] }
  | _ => none }
def fnTouchedRow : OpenClaim := { program := "yteghpageamehkaa", sum := "84a6b2a297b897a023158d24217a0ea2e37001c7c06dc1df060c55fe4bd1959e", func := "loop.example/g00879/laws.FnTouched", spec := "fnTouched", unfollowed := true, recurses := true, plainKeys := false, apart := false }
def FnTouchedSaid : Prop := fnTouchedRow.holds Try.pinned (OpenSpec.ofChange fnTouchedSpec)

/-- ITS FALSE NEIGHBOUR: 'it returns false'. Refute it at one input. -/
def fnTouchedWrong : ChangeSpec := { name := "fnTouched", fn := fun _ => fun
  | [d] => { results := [.lit (.bool false)], args := [d] }
  | _ => none }
def FnTouchedWrongFalsely : Prop := fnTouchedRow.holds Try.pinned (OpenSpec.ofChange fnTouchedWrong)

/-- 'laws.FnMasks': WHATEVER THE INPUT: true; the input reads as it did. -/
def fnMasksSpec : ChangeSpec := { name := "fnMasks", fn := fun _ => fun
  | [d] => { results := [.lit (.bool true)], args := [d] }
  | _ => none }
def fnMasksRow : OpenClaim := { program := "yteghpageamehkaa", sum := "84a6b2a297b897a023158d24217a0ea2e37001c7c06dc1df060c55fe4bd1959e", func := "loop.example/g00879/laws.FnMasks", spec := "fnMasks", unfollowed := true, recurses := true, plainKeys := false, apart := false }
def FnMasksSaid : Prop := fnMasksRow.holds Try.pinned (OpenSpec.ofChange fnMasksSpec)

/-- ITS FALSE NEIGHBOUR: 'it returns false'. Refute it at one input. -/
def fnMasksWrong : ChangeSpec := { name := "fnMasks", fn := fun _ => fun
  | [d] => { results := [.lit (.bool false)], args := [d] }
  | _ => none }
def FnMasksWrongFalsely : Prop := fnMasksRow.holds Try.pinned (OpenSpec.ofChange fnMasksWrong)

/- THE SECOND FORM. 'bulk': how many values and letters a reading holds, each counted each time it is reached (what is shared counts as often as it is met; a slice's spare places count too). A statement '..UptoSaid' is the law's where the arguments, and the package variables that the reading takes, are together of bulk at most 1048576: NARROWER than '..Said'. Prove '..Said' where nothing that the law and all that it calls make is longer than what came in: it says more and counts as full. Else prove '..UptoSaid'. A law counts once. -/
mutual
def uptoBulk {H : Type} : DataW H → Nat
  | .lit (.string bytes) => bytes.length + 1
  | .lit _ => 1
  | .nil => 1
  | .ptr d => uptoBulk d + 1
  | .slice elems spare => uptoBulkAll elems + uptoBulkAll spare + 1
  | .agg parts => uptoBulkAll parts + 1
  | .iface _ d => uptoBulk d + 1
  | .map entries => uptoBulkEntries entries + 1
  | .held _ => 1
def uptoBulkAll {H : Type} : List (DataW H) → Nat
  | [] => 0
  | d :: r => uptoBulk d + uptoBulkAll r
def uptoBulkEntries {H : Type} : List (Lit × DataW H) → Nat
  | [] => 0
  | x :: r => uptoBulkEntry x + uptoBulkEntries r
def uptoBulkEntry {H : Type} : Lit × DataW H → Nat
  | (.string bytes, d) => bytes.length + uptoBulk d + 1
  | (_, d) => uptoBulk d + 1
 end
def uptoSmall : (H : Type) → List (DataW H) → Bool := fun _ ds => decide (uptoBulkAll ds ≤ 1048576)
def OpenSpec.upto (s : _root_.Go.ChangeSpec) : _root_.Go.OpenSpec := { _root_.Go.OpenSpec.ofChange s with cond := some uptoSmall }

/-- 'laws.FnPlaceOrder', WHERE WHAT IT READS IS OF BULK AT MOST 1048576: true; the input reads as it did. -/
def fnPlaceOrderUptoRow : OpenClaim := { program := "yteghpageamehkaa", sum := "84a6b2a297b897a023158d24217a0ea2e37001c7c06dc1df060c55fe4bd1959e", func := "loop.example/g00879/laws.FnPlaceOrder", spec := "fnPlaceOrder", unfollowed := true, recurses := true, plainKeys := false, apart := false, narrowed := true }
def FnPlaceOrderUptoSaid : Prop := fnPlaceOrderUptoRow.holds Try.pinned (OpenSpec.upto fnPlaceOrderSpec)

/-- 'laws.FnExactPlaceElements', WHERE WHAT IT READS IS OF BULK AT MOST 1048576: true; the input reads as it did. -/
def fnExactPlaceElementsUptoRow : OpenClaim := { program := "yteghpageamehkaa", sum := "84a6b2a297b897a023158d24217a0ea2e37001c7c06dc1df060c55fe4bd1959e", func := "loop.example/g00879/laws.FnExactPlaceElements", spec := "fnExactPlaceElements", unfollowed := true, recurses := true, plainKeys := false, apart := false, narrowed := true }
def FnExactPlaceElementsUptoSaid : Prop := fnExactPlaceElementsUptoRow.holds Try.pinned (OpenSpec.upto fnExactPlaceElementsSpec)

/-- 'laws.FnExactTouchedElements', WHERE WHAT IT READS IS OF BULK AT MOST 1048576: true; the input reads as it did. -/
def fnExactTouchedElementsUptoRow : OpenClaim := { program := "yteghpageamehkaa", sum := "84a6b2a297b897a023158d24217a0ea2e37001c7c06dc1df060c55fe4bd1959e", func := "loop.example/g00879/laws.FnExactTouchedElements", spec := "fnExactTouchedElements", unfollowed := true, recurses := true, plainKeys := false, apart := false, narrowed := true }
def FnExactTouchedElementsUptoSaid : Prop := fnExactTouchedElementsUptoRow.holds Try.pinned (OpenSpec.upto fnExactTouchedElementsSpec)

/-- 'laws.FnExactTakeElements', WHERE WHAT IT READS IS OF BULK AT MOST 1048576: true; the input reads as it did. -/
def fnExactTakeElementsUptoRow : OpenClaim := { program := "yteghpageamehkaa", sum := "84a6b2a297b897a023158d24217a0ea2e37001c7c06dc1df060c55fe4bd1959e", func := "loop.example/g00879/laws.FnExactTakeElements", spec := "fnExactTakeElements", unfollowed := true, recurses := true, plainKeys := false, apart := false, narrowed := true }
def FnExactTakeElementsUptoSaid : Prop := fnExactTakeElementsUptoRow.holds Try.pinned (OpenSpec.upto fnExactTakeElementsSpec)

/-- 'laws.FnExactApplyMask', WHERE WHAT IT READS IS OF BULK AT MOST 1048576: true; the input reads as it did. -/
def fnExactApplyMaskUptoRow : OpenClaim := { program := "yteghpageamehkaa", sum := "84a6b2a297b897a023158d24217a0ea2e37001c7c06dc1df060c55fe4bd1959e", func := "loop.example/g00879/laws.FnExactApplyMask", spec := "fnExactApplyMask", unfollowed := true, recurses := true, plainKeys := false, apart := false, narrowed := true }
def FnExactApplyMaskUptoSaid : Prop := fnExactApplyMaskUptoRow.holds Try.pinned (OpenSpec.upto fnExactApplyMaskSpec)

/-- 'laws.FnPlaced', WHERE WHAT IT READS IS OF BULK AT MOST 1048576: true; the input reads as it did. -/
def fnPlacedUptoRow : OpenClaim := { program := "yteghpageamehkaa", sum := "84a6b2a297b897a023158d24217a0ea2e37001c7c06dc1df060c55fe4bd1959e", func := "loop.example/g00879/laws.FnPlaced", spec := "fnPlaced", unfollowed := true, recurses := true, plainKeys := false, apart := false, narrowed := true }
def FnPlacedUptoSaid : Prop := fnPlacedUptoRow.holds Try.pinned (OpenSpec.upto fnPlacedSpec)

/-- 'laws.FnTouched', WHERE WHAT IT READS IS OF BULK AT MOST 1048576: true; the input reads as it did. -/
def fnTouchedUptoRow : OpenClaim := { program := "yteghpageamehkaa", sum := "84a6b2a297b897a023158d24217a0ea2e37001c7c06dc1df060c55fe4bd1959e", func := "loop.example/g00879/laws.FnTouched", spec := "fnTouched", unfollowed := true, recurses := true, plainKeys := false, apart := false, narrowed := true }
def FnTouchedUptoSaid : Prop := fnTouchedUptoRow.holds Try.pinned (OpenSpec.upto fnTouchedSpec)

/-- 'laws.FnMasks', WHERE WHAT IT READS IS OF BULK AT MOST 1048576: true; the input reads as it did. -/
def fnMasksUptoRow : OpenClaim := { program := "yteghpageamehkaa", sum := "84a6b2a297b897a023158d24217a0ea2e37001c7c06dc1df060c55fe4bd1959e", func := "loop.example/g00879/laws.FnMasks", spec := "fnMasks", unfollowed := true, recurses := true, plainKeys := false, apart := false, narrowed := true }
def FnMasksUptoSaid : Prop := fnMasksUptoRow.holds Try.pinned (OpenSpec.upto fnMasksSpec)

end Rows
end Go.Proofs.Yteghpageamehkaa
