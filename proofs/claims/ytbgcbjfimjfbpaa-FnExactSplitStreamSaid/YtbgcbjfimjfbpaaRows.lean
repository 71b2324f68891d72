/-
  No cell of these rows narrows 'for every input' (looked for: loops, veiled, ifaces, maps, wideKeys, modest, calm, conditions, laid).
  DERIVED. THE GIVEN ROWS OF THIS SEAT. 8 by the template 'for every input the law returns true; each argument reads behind the call as it read before'; 0 by the template 'total and deterministic' (their statements: YtbgcbjfimjfbpaaTotals.lean).
  GIVEN WITH THE SEED: the statements are not yours to turn. If you find one false, say at which input.
  Laid BY PROGRAM, IN A SANDBOX (cutbox-rows.mjs): the forced cells as the released guide's own fill.sh prints them over the translation 2f663bb1574ce12e… (all of the seat's roots in one cut). By AI agents, Wed Nov 11 2026. No macro, syntax, notation, axiom, sorry.
-/
import Derived.Test.YtbgcbjfimjfbpaaChecked
import GoSem.Claim
import GoSem.ClaimJoined
import GoSem.ClaimMapViews
import Derived.JoinedTies
import Derived.KernelRfl
namespace Go.Proofs.Ytbgcbjfimjfbpaa
/- THE CELL 'sum', in the pinned program and in every row, IS THE sha256 OF THE DUMP (.gsa) THAT YtbgcbjfimjfbpaaProg.lean LOADS. Nothing in Lean hashes anything: it is a label: what it is worth is what the hold of that sum in a sandbox is worth. -/
noncomputable def Try.pinned : Pinned := { name := "ytbgcbjfimjfbpaa", sum := "2f663bb1574ce12e688081ca7c552a929a7d376a2f7c24ae53006ef0f648e1a4", checked := Try.checked }
namespace Rows
def none {H : Type} : Left H := { results := [], args := [] }

/-- 'laws.FnExactLayoutOf': WHATEVER THE INPUT: true; the input reads as it did. -/
def fnExactLayoutOfSpec : ChangeSpec := { name := "fnExactLayoutOf", fn := fun _ => fun
  | [d1, d2, d3] => { results := [.lit (.bool true)], args := [d1, d2, d3] }
  | _ => none }
def fnExactLayoutOfRow : OpenClaim := { program := "ytbgcbjfimjfbpaa", sum := "2f663bb1574ce12e688081ca7c552a929a7d376a2f7c24ae53006ef0f648e1a4", func := "loop.example/g00879/laws.FnExactLayoutOf", spec := "fnExactLayoutOf", unfollowed := true, recurses := true, plainKeys := false, apart := false }
def FnExactLayoutOfSaid : Prop := fnExactLayoutOfRow.holds Try.pinned (OpenSpec.ofChange fnExactLayoutOfSpec)

/-- ITS FALSE NEIGHBOUR: 'it returns false'. Refute it at one input. -/
def fnExactLayoutOfWrong : ChangeSpec := { name := "fnExactLayoutOf", fn := fun _ => fun
  | [d1, d2, d3] => { results := [.lit (.bool false)], args := [d1, d2, d3] }
  | _ => none }
def FnExactLayoutOfWrongFalsely : Prop := fnExactLayoutOfRow.holds Try.pinned (OpenSpec.ofChange fnExactLayoutOfWrong)

/-- 'laws.FnLayouts': WHATEVER THE INPUT: true; the input reads as it did. -/
def fnLayoutsSpec : ChangeSpec := { name := "fnLayouts", fn := fun _ => fun
  | [d] => { results := [.lit (.bool true)], args := [d] }
  | _ => none }
def fnLayoutsRow : OpenClaim := { program := "ytbgcbjfimjfbpaa", sum := "2f663bb1574ce12e688081ca7c552a929a7d376a2f7c24ae53006ef0f648e1a4", func := "loop.example/g00879/laws.FnLayouts", spec := "fnLayouts", unfollowed := true, recurses := true, plainKeys := false, apart := false }
def FnLayoutsSaid : Prop := fnLayoutsRow.holds Try.pinned (OpenSpec.ofChange fnLayoutsSpec)

/-- ITS FALSE NEIGHBOUR: 'it returns false'. Refute it at one input. -/
def fnLayoutsWrong : ChangeSpec := { name := "fnLayouts", fn := fun _ => fun
  | [d] => { results := [.lit (.bool false)], args := [d] }
  | _ => none }
def FnLayoutsWrongFalsely : Prop := fnLayoutsRow.holds Try.pinned (OpenSpec.ofChange fnLayoutsWrong)

/-- 'laws.FnExactBlockCodes': WHATEVER THE INPUT: true; the input reads as it did. -/
def fnExactBlockCodesSpec : ChangeSpec := { name := "fnExactBlockCodes", fn := fun _ => fun
  | [d] => { results := [.lit (.bool true)], args := [d] }
  | _ => none }
def fnExactBlockCodesRow : OpenClaim := { program := "ytbgcbjfimjfbpaa", sum := "2f663bb1574ce12e688081ca7c552a929a7d376a2f7c24ae53006ef0f648e1a4", func := "loop.example/g00879/laws.FnExactBlockCodes", spec := "fnExactBlockCodes", unfollowed := true, recurses := true, plainKeys := false, apart := false }
def FnExactBlockCodesSaid : Prop := fnExactBlockCodesRow.holds Try.pinned (OpenSpec.ofChange fnExactBlockCodesSpec)

/-- ITS FALSE NEIGHBOUR: 'it returns false'. Refute it at one input. -/
def fnExactBlockCodesWrong : ChangeSpec := { name := "fnExactBlockCodes", fn := fun _ => fun
  | [d] => { results := [.lit (.bool false)], args := [d] }
  | _ => none }
def FnExactBlockCodesWrongFalsely : Prop := fnExactBlockCodesRow.holds Try.pinned (OpenSpec.ofChange fnExactBlockCodesWrong)

/-- 'laws.FnExactStreamDamage': WHATEVER THE INPUT: true; the input reads as it did. -/
def fnExactStreamDamageSpec : ChangeSpec := { name := "fnExactStreamDamage", fn := fun _ => fun
  | [d1, d2, d3] => { results := [.lit (.bool true)], args := [d1, d2, d3] }
  | _ => none }
def fnExactStreamDamageRow : OpenClaim := { program := "ytbgcbjfimjfbpaa", sum := "2f663bb1574ce12e688081ca7c552a929a7d376a2f7c24ae53006ef0f648e1a4", func := "loop.example/g00879/laws.FnExactStreamDamage", spec := "fnExactStreamDamage", unfollowed := true, recurses := true, plainKeys := false, apart := false }
def FnExactStreamDamageSaid : Prop := fnExactStreamDamageRow.holds Try.pinned (OpenSpec.ofChange fnExactStreamDamageSpec)

/-- ITS FALSE NEIGHBOUR: 'it returns false'. Refute it at one input. -/
def fnExactStreamDamageWrong : ChangeSpec := { name := "fnExactStreamDamage", fn := fun _ => fun
  | [d1, d2, d3] => { results := [.lit (.bool false)], args := [d1, d2, d3] }
  | _ => none }
def FnExactStreamDamageWrongFalsely : Prop := fnExactStreamDamageRow.holds Try.pinned (OpenSpec.ofChange fnExactStreamDamageWrong)

/-- 'laws.FnExactSplitStream': WHATEVER THE INPUT: true; the input reads as it did. -/
def fnExactSplitStreamSpec : ChangeSpec := { name := "fnExactSplitStream", fn := fun _ => fun
  | [d1, d2] => { results := [.lit (.bool true)], args := [d1, d2] }
  | _ => none }
def fnExactSplitStreamRow : OpenClaim := { program := "ytbgcbjfimjfbpaa", sum := "2f663bb1574ce12e688081ca7c552a929a7d376a2f7c24ae53006ef0f648e1a4", func := "loop.example/g00879/laws.FnExactSplitStream", spec := "fnExactSplitStream", unfollowed := true, recurses := true, plainKeys := false, apart := false }
def FnExactSplitStreamSaid : Prop := fnExactSplitStreamRow.holds Try.pinned (OpenSpec.ofChange fnExactSplitStreamSpec)

/-- ITS FALSE NEIGHBOUR: 'it returns false'. Refute it at one input. -/
def fnExactSplitStreamWrong : ChangeSpec := { name := "fnExactSplitStream", fn := fun _ => fun
  | [d1, d2] => { results := [.lit (.bool false)], args := [d1, d2] }
  | _ => none }
def FnExactSplitStreamWrongFalsely : Prop := fnExactSplitStreamRow.holds Try.pinned (OpenSpec.ofChange fnExactSplitStreamWrong)

/-- 'laws.FnExactElementCount': WHATEVER THE INPUT: true; the input reads as it did. -/
def fnExactElementCountSpec : ChangeSpec := { name := "fnExactElementCount", fn := fun _ => fun
  | [d1, d2] => { results := [.lit (.bool true)], args := [d1, d2] }
  | _ => none }
def fnExactElementCountRow : OpenClaim := { program := "ytbgcbjfimjfbpaa", sum := "2f663bb1574ce12e688081ca7c552a929a7d376a2f7c24ae53006ef0f648e1a4", func := "loop.example/g00879/laws.FnExactElementCount", spec := "fnExactElementCount", unfollowed := true, recurses := true, plainKeys := false, apart := false }
def FnExactElementCountSaid : Prop := fnExactElementCountRow.holds Try.pinned (OpenSpec.ofChange fnExactElementCountSpec)

/-- ITS FALSE NEIGHBOUR: 'it returns false'. Refute it at one input. -/
def fnExactElementCountWrong : ChangeSpec := { name := "fnExactElementCount", fn := fun _ => fun
  | [d1, d2] => { results := [.lit (.bool false)], args := [d1, d2] }
  | _ => none }
def FnExactElementCountWrongFalsely : Prop := fnExactElementCountRow.holds Try.pinned (OpenSpec.ofChange fnExactElementCountWrong)

/-- 'laws.FnExactErrorRoom': WHATEVER THE INPUT: true; the input reads as it did. -/
def fnExactErrorRoomSpec : ChangeSpec := { name := "fnExactErrorRoom", fn := fun _ => fun
  | [d1, d2, d3] => { results := [.lit (.bool true)], args := [d1, d2, d3] }
  | _ => none }
def fnExactErrorRoomRow : OpenClaim := { program := "ytbgcbjfimjfbpaa", sum := "2f663bb1574ce12e688081ca7c552a929a7d376a2f7c24ae53006ef0f648e1a4", func := "loop.example/g00879/laws.FnExactErrorRoom", spec := "fnExactErrorRoom", unfollowed := true, recurses := true, plainKeys := false, apart := false }
def FnExactErrorRoomSaid : Prop := fnExactErrorRoomRow.holds Try.pinned (OpenSpec.ofChange fnExactErrorRoomSpec)

/-- ITS FALSE NEIGHBOUR: 'it returns false'. Refute it at one input. -/
def fnExactErrorRoomWrong : ChangeSpec := { name := "fnExactErrorRoom", fn := fun _ => fun
  | [d1, d2, d3] => { results := [.lit (.bool false)], args := [d1, d2, d3] }
  | _ => none }
def FnExactErrorRoomWrongFalsely : Prop := fnExactErrorRoomRow.holds Try.pinned (OpenSpec.ofChange fnExactErrorRoomWrong)

/-- 'laws.FnExactRoomOf': WHATEVER THE INPUT: true; the input reads as it did. -/
def fnExactRoomOfSpec : ChangeSpec := { name := "fnExactRoomOf", fn := fun _ => fun
  | [d1, d2, d3] => { results := [.lit (.bool true)], args := [d1, d2, d3] }
  | _ => none }
def fnExactRoomOfRow : OpenClaim := { program := "ytbgcbjfimjfbpaa", sum := "2f663bb1574ce12e688081ca7c552a929a7d376a2f7c24ae53006ef0f648e1a4", func := "loop.example/g00879/laws.FnExactRoomOf", spec := "fnExactRoomOf", unfollowed := true, recurses := true, plainKeys := false, apart := false }
def FnExactRoomOfSaid : Prop := fnExactRoomOfRow.holds Try.pinned (OpenSpec.ofChange fnExactRoomOfSpec)

/-- ITS FALSE NEIGHBOUR: 'it returns false'. Refute it at one input. -/
def fnExactRoomOfWrong : ChangeSpec := { name := "fnExactRoomOf", fn := fun _ => fun
  | [d1, d2, d3] => { results := [.lit (.bool false)], args := [d1, d2, d3] }
  | _ => none }
def FnExactRoomOfWrongFalsely : Prop := fnExactRoomOfRow.holds Try.pinned (OpenSpec.ofChange fnExactRoomOfWrong)

/- THE SECOND FORM. 'bulk': how many values and letters a reading holds, each counted each time it is reached (what is shared counts as often as it is met; a slice's spare places count too). A statement '..UptoSaid' is the law's where the arguments, and the package variables that the reading takes, are together of bulk at most 1048576: NARROWER than '..Said'. Prove '..Said' where nothing that the law and all that it calls make is longer than what came in: it says more and counts as full. Else prove '..UptoSaid'. A law counts once. -/
mutual
def uptoBulk {H : Type} : DataW H → Nat
  | .lit (.string bytes) => bytes.length + 1
  | .lit _ => 1
  | .nil => 1
  | .ptr d => uptoBulk d + 1
  | .slice elems spare => uptoBulkAll elems + uptoBulkAll spare + 1
  | .agg parts => uptoBulkAll parts + 1
  | .iface _ d => uptoBulk d + 1
  | .map entries => uptoBulkEntries entries + 1
  | .held _ => 1
def uptoBulkAll {H : Type} : List (DataW H) → Nat
  | [] => 0
  | d :: r => uptoBulk d + uptoBulkAll r
def uptoBulkEntries {H : Type} : List (Lit × DataW H) → Nat
  | [] => 0
  | x :: r => uptoBulkEntry x + uptoBulkEntries r
def uptoBulkEntry {H : Type} : Lit × DataW H → Nat
  | (.string bytes, d) => bytes.length + uptoBulk d + 1
  | (_, d) => uptoBulk d + 1
 end
def uptoSmall : (H : Type) → List (DataW H) → Bool := fun _ ds => decide (uptoBulkAll ds ≤ 1048576)
def OpenSpec.upto (s : _root_.Go.ChangeSpec) : _root_.Go.OpenSpec := { _root_.Go.OpenSpec.ofChange s with cond := some uptoSmall }

/-- 'laws.FnExactLayoutOf', WHERE WHAT IT READS IS OF BULK AT MOST 1048576: true; the input reads as it did. -/
def fnExactLayoutOfUptoRow : OpenClaim := { program := "ytbgcbjfimjfbpaa", sum := "2f663bb1574ce12e688081ca7c552a929a7d376a2f7c24ae53006ef0f648e1a4", func := "loop.example/g00879/laws.FnExactLayoutOf", spec := "fnExactLayoutOf", unfollowed := true, recurses := true, plainKeys := false, apart := false, narrowed := true }
def FnExactLayoutOfUptoSaid : Prop := fnExactLayoutOfUptoRow.holds Try.pinned (OpenSpec.upto fnExactLayoutOfSpec)

/-- 'laws.FnLayouts', WHERE WHAT IT READS IS OF BULK AT MOST 1048576: true; the input reads as it did. -/
def fnLayoutsUptoRow : OpenClaim := { program := "ytbgcbjfimjfbpaa", sum := "2f663bb1574ce12e688081ca7c552a929a7d376a2f7c24ae53006ef0f648e1a4", func := "loop.example/g00879/laws.FnLayouts", spec := "fnLayouts", unfollowed := true, recurses := true, plainKeys := false, apart := false, narrowed := true }
def FnLayoutsUptoSaid : Prop := fnLayoutsUptoRow.holds Try.pinned (OpenSpec.upto fnLayoutsSpec)

/-- 'laws.FnExactBlockCodes', WHERE WHAT IT READS IS OF BULK AT MOST 1048576: true; the input reads as it did. -/
def fnExactBlockCodesUptoRow : OpenClaim := { program := "ytbgcbjfimjfbpaa", sum := "2f663bb1574ce12e688081ca7c552a929a7d376a2f7c24ae53006ef0f648e1a4", func := "loop.example/g00879/laws.FnExactBlockCodes", spec := "fnExactBlockCodes", unfollowed := true, recurses := true, plainKeys := false, apart := false, narrowed := true }
def FnExactBlockCodesUptoSaid : Prop := fnExactBlockCodesUptoRow.holds Try.pinned (OpenSpec.upto fnExactBlockCodesSpec)

/-- 'laws.FnExactStreamDamage', WHERE WHAT IT READS IS OF BULK AT MOST 1048576: true; the input reads as it did. -/
def fnExactStreamDamageUptoRow : OpenClaim := { program := "ytbgcbjfimjfbpaa", sum := "2f663bb1574ce12e688081ca7c552a929a7d376a2f7c24ae53006ef0f648e1a4", func := "loop.example/g00879/laws.FnExactStreamDamage", spec := "fnExactStreamDamage", unfollowed := true, recurses := true, plainKeys := false, apart := false, narrowed := true }
def FnExactStreamDamageUptoSaid : Prop := fnExactStreamDamageUptoRow.holds Try.pinned (OpenSpec.upto fnExactStreamDamageSpec)

/-- 'laws.FnExactSplitStream', WHERE WHAT IT READS IS OF BULK AT MOST 1048576: true; the input reads as it did. -/
def fnExactSplitStreamUptoRow : OpenClaim := { program := "ytbgcbjfimjfbpaa", sum := "2f663bb1574ce12e688081ca7c552a929a7d376a2f7c24ae53006ef0f648e1a4", func := "loop.example/g00879/laws.FnExactSplitStream", spec := "fnExactSplitStream", unfollowed := true, recurses := true, plainKeys := false, apart := false, narrowed := true }
def FnExactSplitStreamUptoSaid : Prop := fnExactSplitStreamUptoRow.holds Try.pinned (OpenSpec.upto fnExactSplitStreamSpec)

/-- 'laws.FnExactElementCount', WHERE WHAT IT READS IS OF BULK AT MOST 1048576: true; the input reads as it did. -/
def fnExactElementCountUptoRow : OpenClaim := { program := "ytbgcbjfimjfbpaa", sum := "2f663bb1574ce12e688081ca7c552a929a7d376a2f7c24ae53006ef0f648e1a4", func := "loop.example/g00879/laws.FnExactElementCount", spec := "fnExactElementCount", unfollowed := true, recurses := true, plainKeys := false, apart := false, narrowed := true }
def FnExactElementCountUptoSaid : Prop := fnExactElementCountUptoRow.holds Try.pinned (OpenSpec.upto fnExactElementCountSpec)

/-- 'laws.FnExactErrorRoom', WHERE WHAT IT READS IS OF BULK AT MOST 1048576: true; the input reads as it did. -/
def fnExactErrorRoomUptoRow : OpenClaim := { program := "ytbgcbjfimjfbpaa", sum := "2f663bb1574ce12e688081ca7c552a929a7d376a2f7c24ae53006ef0f648e1a4", func := "loop.example/g00879/laws.FnExactErrorRoom", spec := "fnExactErrorRoom", unfollowed := true, recurses := true, plainKeys := false, apart := false, narrowed := true }
def FnExactErrorRoomUptoSaid : Prop := fnExactErrorRoomUptoRow.holds Try.pinned (OpenSpec.upto fnExactErrorRoomSpec)

/-- 'laws.FnExactRoomOf', WHERE WHAT IT READS IS OF BULK AT MOST 1048576: true; the input reads as it did. -/
def fnExactRoomOfUptoRow : OpenClaim := { program := "ytbgcbjfimjfbpaa", sum := "2f663bb1574ce12e688081ca7c552a929a7d376a2f7c24ae53006ef0f648e1a4", func := "loop.example/g00879/laws.FnExactRoomOf", spec := "fnExactRoomOf", unfollowed := true, recurses := true, plainKeys := false, apart := false, narrowed := true }
def FnExactRoomOfUptoSaid : Prop := fnExactRoomOfUptoRow.holds Try.pinned (OpenSpec.upto fnExactRoomOfSpec)

end Rows
end Go.Proofs.Ytbgcbjfimjfbpaa
