/-
  No cell of these rows narrows 'for every input' (looked for: loops, veiled, ifaces, maps, wideKeys, modest, calm, conditions, laid).
  DERIVED. THE GIVEN ROWS OF THIS SEAT. 7 by the template 'for every input the law returns true; each argument reads behind the call as it read before'; 0 by the template 'total and deterministic' (their statements: YtflpllmbpfdnjaaTotals.lean).
  GIVEN WITH THE SEED: the statements are not yours to turn. If you find one false, say at which input.
  Laid BY PROGRAM, IN A SANDBOX (cutbox-rows.mjs): the forced cells as the released guide's own fill.sh prints them over the translation ed764bc8726b53de… (all of the seat's roots in one cut). By AI agents, Wed Nov 11 2026. No macro, syntax, notation, axiom, sorry.
-/
import Derived.Test.YtflpllmbpfdnjaaChecked
import GoSem.Claim
import GoSem.ClaimJoined
import GoSem.ClaimMapViews
import Derived.JoinedTies
import Derived.KernelRfl
namespace Go.Proofs.Ytflpllmbpfdnjaa
/- THE CELL 'sum', in the pinned program and in every row, IS THE sha256 OF THE DUMP (.gsa) THAT YtflpllmbpfdnjaaProg.lean LOADS. Nothing in Lean hashes anything: it is a label: what it is worth is what the hold of that sum in a sandbox is worth. -/
noncomputable def Try.pinned : Pinned := { name := "ytflpllmbpfdnjaa", sum := "ed764bc8726b53debc2bf866ff54cffed7bc85da016296f5f1d9fffe096b981d", checked := Try.checked }
namespace Rows
def none {H : Type} : Left H := { results := [], args := [] }

/-- 'laws.FnExactSampleAt': WHATEVER THE INPUT: true; the input reads as it did. -/
def fnExactSampleAtSpec : ChangeSpec := { name := "fnExactSampleAt", fn := fun _ => fun
  | [d1, d2, d3, d4, d5] => { results := [.lit (.bool true)], args := [d1, d2, d3, d4, d5] }
  | _ => none }
def fnExactSampleAtRow : OpenClaim := { program := "ytflpllmbpfdnjaa", sum := "ed764bc8726b53debc2bf866ff54cffed7bc85da016296f5f1d9fffe096b981d", func := "loop.example/g00879/laws.FnExactSampleAt", spec := "fnExactSampleAt", apart := false }
def FnExactSampleAtSaid : Prop := fnExactSampleAtRow.holds Try.pinned (OpenSpec.ofChange fnExactSampleAtSpec)

/-- ITS FALSE NEIGHBOUR: 'it returns false'. Refute it at one input. -/
def fnExactSampleAtWrong : ChangeSpec := { name := "fnExactSampleAt", fn := fun _ => fun
  | [d1, d2, d3, d4, d5] => { results := [.lit (.bool false)], args := [d1, d2, d3, d4, d5] }
  | _ => none }
def FnExactSampleAtWrongFalsely : Prop := fnExactSampleAtRow.holds Try.pinned (OpenSpec.ofChange fnExactSampleAtWrong)

/-- 'laws.FnExactSampleMap': WHATEVER THE INPUT: true; the input reads as it did. -/
def fnExactSampleMapSpec : ChangeSpec := { name := "fnExactSampleMap", fn := fun _ => fun
  | [d1, d2, d3] => { results := [.lit (.bool true)], args := [d1, d2, d3] }
  | _ => none }
def fnExactSampleMapRow : OpenClaim := { program := "ytflpllmbpfdnjaa", sum := "ed764bc8726b53debc2bf866ff54cffed7bc85da016296f5f1d9fffe096b981d", func := "loop.example/g00879/laws.FnExactSampleMap", spec := "fnExactSampleMap", unfollowed := true, recurses := true, apart := false }
def FnExactSampleMapSaid : Prop := fnExactSampleMapRow.holds Try.pinned (OpenSpec.ofChange fnExactSampleMapSpec)

/-- ITS FALSE NEIGHBOUR: 'it returns false'. Refute it at one input. -/
def fnExactSampleMapWrong : ChangeSpec := { name := "fnExactSampleMap", fn := fun _ => fun
  | [d1, d2, d3] => { results := [.lit (.bool false)], args := [d1, d2, d3] }
  | _ => none }
def FnExactSampleMapWrongFalsely : Prop := fnExactSampleMapRow.holds Try.pinned (OpenSpec.ofChange fnExactSampleMapWrong)

/-- 'laws.FnExactSampleStack': WHATEVER THE INPUT: true; the input reads as it did. -/
def fnExactSampleStackSpec : ChangeSpec := { name := "fnExactSampleStack", fn := fun _ => fun
  | [d1, d2, d3, d4] => { results := [.lit (.bool true)], args := [d1, d2, d3, d4] }
  | _ => none }
def fnExactSampleStackRow : OpenClaim := { program := "ytflpllmbpfdnjaa", sum := "ed764bc8726b53debc2bf866ff54cffed7bc85da016296f5f1d9fffe096b981d", func := "loop.example/g00879/laws.FnExactSampleStack", spec := "fnExactSampleStack", unfollowed := true, recurses := true, apart := false }
def FnExactSampleStackSaid : Prop := fnExactSampleStackRow.holds Try.pinned (OpenSpec.ofChange fnExactSampleStackSpec)

/-- ITS FALSE NEIGHBOUR: 'it returns false'. Refute it at one input. -/
def fnExactSampleStackWrong : ChangeSpec := { name := "fnExactSampleStack", fn := fun _ => fun
  | [d1, d2, d3, d4] => { results := [.lit (.bool false)], args := [d1, d2, d3, d4] }
  | _ => none }
def FnExactSampleStackWrongFalsely : Prop := fnExactSampleStackRow.holds Try.pinned (OpenSpec.ofChange fnExactSampleStackWrong)

/-- 'laws.FnExactSampleFive': WHATEVER THE INPUT: true; the input reads as it did. -/
def fnExactSampleFiveSpec : ChangeSpec := { name := "fnExactSampleFive", fn := fun _ => fun
  | [d1, d2, d3] => { results := [.lit (.bool true)], args := [d1, d2, d3] }
  | _ => none }
def fnExactSampleFiveRow : OpenClaim := { program := "ytflpllmbpfdnjaa", sum := "ed764bc8726b53debc2bf866ff54cffed7bc85da016296f5f1d9fffe096b981d", func := "loop.example/g00879/laws.FnExactSampleFive", spec := "fnExactSampleFive", unfollowed := true, recurses := true, apart := false }
def FnExactSampleFiveSaid : Prop := fnExactSampleFiveRow.holds Try.pinned (OpenSpec.ofChange fnExactSampleFiveSpec)

/-- ITS FALSE NEIGHBOUR: 'it returns false'. Refute it at one input. -/
def fnExactSampleFiveWrong : ChangeSpec := { name := "fnExactSampleFive", fn := fun _ => fun
  | [d1, d2, d3] => { results := [.lit (.bool false)], args := [d1, d2, d3] }
  | _ => none }
def FnExactSampleFiveWrongFalsely : Prop := fnExactSampleFiveRow.holds Try.pinned (OpenSpec.ofChange fnExactSampleFiveWrong)

/-- 'laws.FnSampledPrints': WHATEVER THE INPUT: true; the input reads as it did. -/
def fnSampledPrintsSpec : ChangeSpec := { name := "fnSampledPrints", fn := fun _ => fun
  | [d] => { results := [.lit (.bool true)], args := [d] }
  | _ => none }
def fnSampledPrintsRow : OpenClaim := { program := "ytflpllmbpfdnjaa", sum := "ed764bc8726b53debc2bf866ff54cffed7bc85da016296f5f1d9fffe096b981d", func := "loop.example/g00879/laws.FnSampledPrints", spec := "fnSampledPrints", unfollowed := true, recurses := true, apart := false }
def FnSampledPrintsSaid : Prop := fnSampledPrintsRow.holds Try.pinned (OpenSpec.ofChange fnSampledPrintsSpec)

/-- ITS FALSE NEIGHBOUR: 'it returns false'. Refute it at one input. -/
def fnSampledPrintsWrong : ChangeSpec := { name := "fnSampledPrints", fn := fun _ => fun
  | [d] => { results := [.lit (.bool false)], args := [d] }
  | _ => none }
def FnSampledPrintsWrongFalsely : Prop := fnSampledPrintsRow.holds Try.pinned (OpenSpec.ofChange fnSampledPrintsWrong)

/-- 'laws.FnSamples': WHATEVER THE INPUT: true; the input reads as it did. -/
def fnSamplesSpec : ChangeSpec := { name := "fnSamples", fn := fun _ => fun
  | [d] => { results := [.lit (.bool true)], args := [d] }
  | _ => none }
def fnSamplesRow : OpenClaim := { program := "ytflpllmbpfdnjaa", sum := "ed764bc8726b53debc2bf866ff54cffed7bc85da016296f5f1d9fffe096b981d", func := "loop.example/g00879/laws.FnSamples", spec := "fnSamples", unfollowed := true, recurses := true, apart := false }
def FnSamplesSaid : Prop := fnSamplesRow.holds Try.pinned (OpenSpec.ofChange fnSamplesSpec)

/-- ITS FALSE NEIGHBOUR: 'it returns false'. Refute it at one input. -/
def fnSamplesWrong : ChangeSpec := { name := "fnSamples", fn := fun _ => fun
  | [d] => { results := [.lit (.bool false)], args := [d] }
  | _ => none }
def FnSamplesWrongFalsely : Prop := fnSamplesRow.holds Try.pinned (OpenSpec.ofChange fnSamplesWrong)

/-- 'laws.FnVotes': WHATEVER THE INPUT: true; the input reads as it did. -/
def fnVotesSpec : ChangeSpec := { name := "fnVotes", fn := fun _ => fun
  | [d] => { results := [.lit (.bool true)], args := [d] }
  | _ => none }
def fnVotesRow : OpenClaim := { program := "ytflpllmbpfdnjaa", sum := "ed764bc8726b53debc2bf866ff54cffed7bc85da016296f5f1d9fffe096b981d", func := "loop.example/g00879/laws.FnVotes", spec := "fnVotes", unfollowed := true, recurses := true, apart := false }
def FnVotesSaid : Prop := fnVotesRow.holds Try.pinned (OpenSpec.ofChange fnVotesSpec)

/-- ITS FALSE NEIGHBOUR: 'it returns false'. Refute it at one input. -/
def fnVotesWrong : ChangeSpec := { name := "fnVotes", fn := fun _ => fun
  | [d] => { results := [.lit (.bool false)], args := [d] }
  | _ => none }
def FnVotesWrongFalsely : Prop := fnVotesRow.holds Try.pinned (OpenSpec.ofChange fnVotesWrong)

/- THE SECOND FORM. 'bulk': how many values and letters a reading holds, each counted each time it is reached (what is shared counts as often as it is met; a slice's spare places count too). A statement '..UptoSaid' is the law's where the arguments, and the package variables that the reading takes, are together of bulk at most 1048576: NARROWER than '..Said'. Prove '..Said' where nothing that the law and all that it calls make is longer than what came in: it says more and counts as full. Else prove '..UptoSaid'. A law counts once. -/
mutual
def uptoBulk {H : Type} : DataW H → Nat
  | .lit (.string bytes) => bytes.length + 1
  | .lit _ => 1
  | .nil => 1
  | .ptr d => uptoBulk d + 1
  | .slice elems spare => uptoBulkAll elems + uptoBulkAll spare + 1
  | .agg parts => uptoBulkAll parts + 1
  | .iface _ d => uptoBulk d + 1
  | .map entries => uptoBulkEntries entries + 1
  | .held _ => 1
def uptoBulkAll {H : Type} : List (DataW H) → Nat
  | [] => 0
  | d :: r => uptoBulk d + uptoBulkAll r
def uptoBulkEntries {H : Type} : List (Lit × DataW H) → Nat
  | [] => 0
  | x :: r => uptoBulkEntry x + uptoBulkEntries r
def uptoBulkEntry {H : Type} : Lit × DataW H → Nat
  | (.string bytes, d) => bytes.length + uptoBulk d + 1
  | (_, d) => uptoBulk d + 1
 end
def uptoSmall : (H : Type) → List (DataW H) → Bool := fun _ ds => decide (uptoBulkAll ds ≤ 1048576)
def OpenSpec.upto (s : _root_.Go.ChangeSpec) : _root_.Go.OpenSpec := { _root_.Go.OpenSpec.ofChange s with cond := some uptoSmall }

/-- 'laws.FnExactSampleAt', WHERE WHAT IT READS IS OF BULK AT MOST 1048576: true; the input reads as it did. -/
def fnExactSampleAtUptoRow : OpenClaim := { program := "ytflpllmbpfdnjaa", sum := "ed764bc8726b53debc2bf866ff54cffed7bc85da016296f5f1d9fffe096b981d", func := "loop.example/g00879/laws.FnExactSampleAt", spec := "fnExactSampleAt", apart := false, narrowed := true }
def FnExactSampleAtUptoSaid : Prop := fnExactSampleAtUptoRow.holds Try.pinned (OpenSpec.upto fnExactSampleAtSpec)

/-- 'laws.FnExactSampleMap', WHERE WHAT IT READS IS OF BULK AT MOST 1048576: true; the input reads as it did. -/
def fnExactSampleMapUptoRow : OpenClaim := { program := "ytflpllmbpfdnjaa", sum := "ed764bc8726b53debc2bf866ff54cffed7bc85da016296f5f1d9fffe096b981d", func := "loop.example/g00879/laws.FnExactSampleMap", spec := "fnExactSampleMap", unfollowed := true, recurses := true, apart := false, narrowed := true }
def FnExactSampleMapUptoSaid : Prop := fnExactSampleMapUptoRow.holds Try.pinned (OpenSpec.upto fnExactSampleMapSpec)

/-- 'laws.FnExactSampleStack', WHERE WHAT IT READS IS OF BULK AT MOST 1048576: true; the input reads as it did. -/
def fnExactSampleStackUptoRow : OpenClaim := { program := "ytflpllmbpfdnjaa", sum := "ed764bc8726b53debc2bf866ff54cffed7bc85da016296f5f1d9fffe096b981d", func := "loop.example/g00879/laws.FnExactSampleStack", spec := "fnExactSampleStack", unfollowed := true, recurses := true, apart := false, narrowed := true }
def FnExactSampleStackUptoSaid : Prop := fnExactSampleStackUptoRow.holds Try.pinned (OpenSpec.upto fnExactSampleStackSpec)

/-- 'laws.FnExactSampleFive', WHERE WHAT IT READS IS OF BULK AT MOST 1048576: true; the input reads as it did. -/
def fnExactSampleFiveUptoRow : OpenClaim := { program := "ytflpllmbpfdnjaa", sum := "ed764bc8726b53debc2bf866ff54cffed7bc85da016296f5f1d9fffe096b981d", func := "loop.example/g00879/laws.FnExactSampleFive", spec := "fnExactSampleFive", unfollowed := true, recurses := true, apart := false, narrowed := true }
def FnExactSampleFiveUptoSaid : Prop := fnExactSampleFiveUptoRow.holds Try.pinned (OpenSpec.upto fnExactSampleFiveSpec)

/-- 'laws.FnSampledPrints', WHERE WHAT IT READS IS OF BULK AT MOST 1048576: true; the input reads as it did. -/
def fnSampledPrintsUptoRow : OpenClaim := { program := "ytflpllmbpfdnjaa", sum := "ed764bc8726b53debc2bf866ff54cffed7bc85da016296f5f1d9fffe096b981d", func := "loop.example/g00879/laws.FnSampledPrints", spec := "fnSampledPrints", unfollowed := true, recurses := true, apart := false, narrowed := true }
def FnSampledPrintsUptoSaid : Prop := fnSampledPrintsUptoRow.holds Try.pinned (OpenSpec.upto fnSampledPrintsSpec)

/-- 'laws.FnSamples', WHERE WHAT IT READS IS OF BULK AT MOST 1048576: true; the input reads as it did. -/
def fnSamplesUptoRow : OpenClaim := { program := "ytflpllmbpfdnjaa", sum := "ed764bc8726b53debc2bf866ff54cffed7bc85da016296f5f1d9fffe096b981d", func := "loop.example/g00879/laws.FnSamples", spec := "fnSamples", unfollowed := true, recurses := true, apart := false, narrowed := true }
def FnSamplesUptoSaid : Prop := fnSamplesUptoRow.holds Try.pinned (OpenSpec.upto fnSamplesSpec)

/-- 'laws.FnVotes', WHERE WHAT IT READS IS OF BULK AT MOST 1048576: true; the input reads as it did. -/
def fnVotesUptoRow : OpenClaim := { program := "ytflpllmbpfdnjaa", sum := "ed764bc8726b53debc2bf866ff54cffed7bc85da016296f5f1d9fffe096b981d", func := "loop.example/g00879/laws.FnVotes", spec := "fnVotes", unfollowed := true, recurses := true, apart := false, narrowed := true }
def FnVotesUptoSaid : Prop := fnVotesUptoRow.holds Try.pinned (OpenSpec.upto fnVotesSpec)

end Rows
end Go.Proofs.Ytflpllmbpfdnjaa
