/-
  No cell of these rows narrows 'for every input' (looked for: loops, veiled, ifaces, maps, wideKeys, modest, calm, conditions, laid).
  DERIVED. THE GIVEN ROWS OF THIS SEAT. 4 by the template 'for every input the law returns true; each argument reads behind the call as it read before'; 0 by the template 'total and deterministic' (their statements: YtffcjmnldmjocaaTotals.lean).
  GIVEN WITH THE SEED: the statements are not yours to turn. If you find one false, say at which input.
  Laid BY PROGRAM, IN A SANDBOX (cutbox-rows.mjs): the forced cells as the released guide's own fill.sh prints them over the translation c5bab3136b9f46f1… (all of the seat's roots in one cut). By AI agents, Wed Nov 11 2026. No macro, syntax, notation, axiom, sorry.
-/
import Derived.Test.YtffcjmnldmjocaaChecked
import GoSem.Claim
import GoSem.ClaimJoined
import GoSem.ClaimMapViews
import Derived.JoinedTies
import Derived.KernelRfl
namespace Go.Proofs.Ytffcjmnldmjocaa
/- THE CELL 'sum', in the pinned program and in every row, IS THE sha256 OF THE DUMP (.gsa) THAT YtffcjmnldmjocaaProg.lean LOADS. Nothing in Lean hashes anything: it is a label: what it is worth is what the hold of that sum in a sandbox is worth. -/
noncomputable def Try.pinned : Pinned := { name := "ytffcjmnldmjocaa", sum := "c5bab3136b9f46f111de3d224790ac6112856e8364cb4fa3fbc5b5f9a20d738a", checked := Try.checked }
namespace Rows
def none {H : Type} : Left H := { results := [], args := [] }

/-- 'laws.FnExactIsDamage': WHATEVER THE INPUT: true; the input reads as it did. -/
def fnExactIsDamageSpec : ChangeSpec := { name := "fnExactIsDamage", fn := fun _ => fun
  | [d] => { results := [.lit (.bool true)], args := [d] }
  | _ => none }
def fnExactIsDamageRow : OpenClaim := { program := "ytffcjmnldmjocaa", sum := "c5bab3136b9f46f111de3d224790ac6112856e8364cb4fa3fbc5b5f9a20d738a", func := "loop.example/g00879/laws.FnExactIsDamage", spec := "fnExactIsDamage", unfollowed := true, recurses := true, apart := false }
def FnExactIsDamageSaid : Prop := fnExactIsDamageRow.holds Try.pinned (OpenSpec.ofChange fnExactIsDamageSpec)

/-- ITS FALSE NEIGHBOUR: 'it returns false'. Refute it at one input. -/
def fnExactIsDamageWrong : ChangeSpec := { name := "fnExactIsDamage", fn := fun _ => fun
  | [d] => { results := [.lit (.bool false)], args := [d] }
  | _ => none }
def FnExactIsDamageWrongFalsely : Prop := fnExactIsDamageRow.holds Try.pinned (OpenSpec.ofChange fnExactIsDamageWrong)

/-- 'laws.FnExactTouchesPixel': WHATEVER THE INPUT: true; the input reads as it did. -/
def fnExactTouchesPixelSpec : ChangeSpec := { name := "fnExactTouchesPixel", fn := fun _ => fun
  | [d1, d2, d3] => { results := [.lit (.bool true)], args := [d1, d2, d3] }
  | _ => none }
def fnExactTouchesPixelRow : OpenClaim := { program := "ytffcjmnldmjocaa", sum := "c5bab3136b9f46f111de3d224790ac6112856e8364cb4fa3fbc5b5f9a20d738a", func := "loop.example/g00879/laws.FnExactTouchesPixel", spec := "fnExactTouchesPixel", unfollowed := true, recurses := true, apart := false }
def FnExactTouchesPixelSaid : Prop := fnExactTouchesPixelRow.holds Try.pinned (OpenSpec.ofChange fnExactTouchesPixelSpec)

/-- ITS FALSE NEIGHBOUR: 'it returns false'. Refute it at one input. -/
def fnExactTouchesPixelWrong : ChangeSpec := { name := "fnExactTouchesPixel", fn := fun _ => fun
  | [d1, d2, d3] => { results := [.lit (.bool false)], args := [d1, d2, d3] }
  | _ => none }
def FnExactTouchesPixelWrongFalsely : Prop := fnExactTouchesPixelRow.holds Try.pinned (OpenSpec.ofChange fnExactTouchesPixelWrong)

/-- 'laws.FnExactDamageOf': WHATEVER THE INPUT: true; the input reads as it did. -/
def fnExactDamageOfSpec : ChangeSpec := { name := "fnExactDamageOf", fn := fun _ => fun
  | [d1, d2, d3, d4] => { results := [.lit (.bool true)], args := [d1, d2, d3, d4] }
  | _ => none }
def fnExactDamageOfRow : OpenClaim := { program := "ytffcjmnldmjocaa", sum := "c5bab3136b9f46f111de3d224790ac6112856e8364cb4fa3fbc5b5f9a20d738a", func := "loop.example/g00879/laws.FnExactDamageOf", spec := "fnExactDamageOf", unfollowed := true, recurses := true, apart := false }
def FnExactDamageOfSaid : Prop := fnExactDamageOfRow.holds Try.pinned (OpenSpec.ofChange fnExactDamageOfSpec)

/-- ITS FALSE NEIGHBOUR: 'it returns false'. Refute it at one input. -/
def fnExactDamageOfWrong : ChangeSpec := { name := "fnExactDamageOf", fn := fun _ => fun
  | [d1, d2, d3, d4] => { results := [.lit (.bool false)], args := [d1, d2, d3, d4] }
  | _ => none }
def FnExactDamageOfWrongFalsely : Prop := fnExactDamageOfRow.holds Try.pinned (OpenSpec.ofChange fnExactDamageOfWrong)

/-- 'laws.FnExactTouchedModules': WHATEVER THE INPUT: true; the input reads as it did. -/
def fnExactTouchedModulesSpec : ChangeSpec := { name := "fnExactTouchedModules", fn := fun _ => fun
  | [d1, d2, d3, d4] => { results := [.lit (.bool true)], args := [d1, d2, d3, d4] }
  | _ => none }
def fnExactTouchedModulesRow : OpenClaim := { program := "ytffcjmnldmjocaa", sum := "c5bab3136b9f46f111de3d224790ac6112856e8364cb4fa3fbc5b5f9a20d738a", func := "loop.example/g00879/laws.FnExactTouchedModules", spec := "fnExactTouchedModules", unfollowed := true, recurses := true, apart := false }
def FnExactTouchedModulesSaid : Prop := fnExactTouchedModulesRow.holds Try.pinned (OpenSpec.ofChange fnExactTouchedModulesSpec)

/-- ITS FALSE NEIGHBOUR: 'it returns false'. Refute it at one input. -/
def fnExactTouchedModulesWrong : ChangeSpec := { name := "fnExactTouchedModules", fn := fun _ => fun
  | [d1, d2, d3, d4] => { results := [.lit (.bool false)], args := [d1, d2, d3, d4] }
  | _ => none }
def FnExactTouchedModulesWrongFalsely : Prop := fnExactTouchedModulesRow.holds Try.pinned (OpenSpec.ofChange fnExactTouchedModulesWrong)

/- THE SECOND FORM. 'bulk': how many values and letters a reading holds, each counted each time it is reached (what is shared counts as often as it is met; a slice's spare places count too). A statement '..UptoSaid' is the law's where the arguments, and the package variables that the reading takes, are together of bulk at most 1048576: NARROWER than '..Said'. Prove '..Said' where nothing that the law and all that it calls make is longer than what came in: it says more and counts as full. Else prove '..UptoSaid'. A law counts once. -/
mutual
def uptoBulk {H : Type} : DataW H → Nat
  | .lit (.string bytes) => bytes.length + 1
  | .lit _ => 1
  | .nil => 1
  | .ptr d => uptoBulk d + 1
  | .slice elems spare => uptoBulkAll elems + uptoBulkAll spare + 1
  | .agg parts => uptoBulkAll parts + 1
  | .iface _ d => uptoBulk d + 1
  | .map entries => uptoBulkEntries entries + 1
  | .held _ => 1
def uptoBulkAll {H : Type} : List (DataW H) → Nat
  | [] => 0
  | d :: r => uptoBulk d + uptoBulkAll r
def uptoBulkEntries {H : Type} : List (Lit × DataW H) → Nat
  | [] => 0
  | x :: r => uptoBulkEntry x + uptoBulkEntries r
def uptoBulkEntry {H : Type} : Lit × DataW H → Nat
  | (.string bytes, d) => bytes.length + uptoBulk d + 1
  | (_, d) => uptoBulk d + 1
 end
def uptoSmall : (H : Type) → List (DataW H) → Bool := fun _ ds => decide (uptoBulkAll ds ≤ 1048576)
def OpenSpec.upto (s : _root_.Go.ChangeSpec) : _root_.Go.OpenSpec := { _root_.Go.OpenSpec.ofChange s with cond := some uptoSmall }

/-- 'laws.FnExactIsDamage', WHERE WHAT IT READS IS OF BULK AT MOST 1048576: true; the input reads as it did. -/
def fnExactIsDamageUptoRow : OpenClaim := { program := "ytffcjmnldmjocaa", sum := "c5bab3136b9f46f111de3d224790ac6112856e8364cb4fa3fbc5b5f9a20d738a", func := "loop.example/g00879/laws.FnExactIsDamage", spec := "fnExactIsDamage", unfollowed := true, recurses := true, apart := false, narrowed := true }
def FnExactIsDamageUptoSaid : Prop := fnExactIsDamageUptoRow.holds Try.pinned (OpenSpec.upto fnExactIsDamageSpec)

/-- 'laws.FnExactTouchesPixel', WHERE WHAT IT READS IS OF BULK AT MOST 1048576: true; the input reads as it did. -/
def fnExactTouchesPixelUptoRow : OpenClaim := { program := "ytffcjmnldmjocaa", sum := "c5bab3136b9f46f111de3d224790ac6112856e8364cb4fa3fbc5b5f9a20d738a", func := "loop.example/g00879/laws.FnExactTouchesPixel", spec := "fnExactTouchesPixel", unfollowed := true, recurses := true, apart := false, narrowed := true }
def FnExactTouchesPixelUptoSaid : Prop := fnExactTouchesPixelUptoRow.holds Try.pinned (OpenSpec.upto fnExactTouchesPixelSpec)

/-- 'laws.FnExactDamageOf', WHERE WHAT IT READS IS OF BULK AT MOST 1048576: true; the input reads as it did. -/
def fnExactDamageOfUptoRow : OpenClaim := { program := "ytffcjmnldmjocaa", sum := "c5bab3136b9f46f111de3d224790ac6112856e8364cb4fa3fbc5b5f9a20d738a", func := "loop.example/g00879/laws.FnExactDamageOf", spec := "fnExactDamageOf", unfollowed := true, recurses := true, apart := false, narrowed := true }
def FnExactDamageOfUptoSaid : Prop := fnExactDamageOfUptoRow.holds Try.pinned (OpenSpec.upto fnExactDamageOfSpec)

/-- 'laws.FnExactTouchedModules', WHERE WHAT IT READS IS OF BULK AT MOST 1048576: true; the input reads as it did. -/
def fnExactTouchedModulesUptoRow : OpenClaim := { program := "ytffcjmnldmjocaa", sum := "c5bab3136b9f46f111de3d224790ac6112856e8364cb4fa3fbc5b5f9a20d738a", func := "loop.example/g00879/laws.FnExactTouchedModules", spec := "fnExactTouchedModules", unfollowed := true, recurses := true, apart := false, narrowed := true }
def FnExactTouchedModulesUptoSaid : Prop := fnExactTouchedModulesUptoRow.holds Try.pinned (OpenSpec.upto fnExactTouchedModulesSpec)

end Rows
end Go.Proofs.Ytffcjmnldmjocaa
