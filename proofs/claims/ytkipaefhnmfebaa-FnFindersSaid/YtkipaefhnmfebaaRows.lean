/-
  No cell of these rows narrows 'for every input' (looked for: loops, veiled, ifaces, maps, wideKeys, modest, calm, conditions, laid).
  DERIVED. THE GIVEN ROWS OF THIS SEAT. 3 by the template 'for every input the law returns true; each argument reads behind the call as it read before'; 0 by the template 'total and deterministic' (their statements: YtkipaefhnmfebaaTotals.lean).
  GIVEN WITH THE SEED: the statements are not yours to turn. If you find one false, say at which input.
  Laid BY PROGRAM, IN A SANDBOX (cutbox-rows.mjs): the forced cells as the released guide's own fill.sh prints them over the translation cc783aacb543f44a… (all of the seat's roots in one cut). By AI agents, Wed Nov 11 2026. No macro, syntax, notation, axiom, sorry.
-/
import Derived.Test.YtkipaefhnmfebaaChecked
import GoSem.Claim
import GoSem.ClaimJoined
import GoSem.ClaimMapViews
import Derived.JoinedTies
import Derived.KernelRfl
namespace Go.Proofs.Ytkipaefhnmfebaa
/- THE CELL 'sum', in the pinned program and in every row, IS THE sha256 OF THE DUMP (.gsa) THAT YtkipaefhnmfebaaProg.lean LOADS. Nothing in Lean hashes anything: it is a label: what it is worth is what the hold of that sum in a sandbox is worth. -/
noncomputable def Try.pinned : Pinned := { name := "ytkipaefhnmfebaa", sum := "cc783aacb543f44add822cc6e348ad3127a14ec77b4a34b295faf74c4fff4712", checked := Try.checked }
namespace Rows
def none {H : Type} : Left H := { results := [], args := [] }

/-- 'laws.FnExactSplitLimit': WHATEVER THE INPUT: true; the input reads as it did. -/
def fnExactSplitLimitSpec : ChangeSpec := { name := "fnExactSplitLimit", fn := fun _ => fun
  | [d] => { results := [.lit (.bool true)], args := [d] }
  | _ => none }
def fnExactSplitLimitRow : OpenClaim := { program := "ytkipaefhnmfebaa", sum := "cc783aacb543f44add822cc6e348ad3127a14ec77b4a34b295faf74c4fff4712", func := "loop.example/g00879/laws.FnExactSplitLimit", spec := "fnExactSplitLimit", apart := false }
def FnExactSplitLimitSaid : Prop := fnExactSplitLimitRow.holds Try.pinned (OpenSpec.ofChange fnExactSplitLimitSpec)

/-- ITS FALSE NEIGHBOUR: 'it returns false'. Refute it at one input. -/
def fnExactSplitLimitWrong : ChangeSpec := { name := "fnExactSplitLimit", fn := fun _ => fun
  | [d] => { results := [.lit (.bool false)], args := [d] }
  | _ => none }
def FnExactSplitLimitWrongFalsely : Prop := fnExactSplitLimitRow.holds Try.pinned (OpenSpec.ofChange fnExactSplitLimitWrong)

/-- 'laws.FnLimits': WHATEVER THE INPUT: true; the input reads as it did. -/
def fnLimitsSpec : ChangeSpec := { name := "fnLimits", fn := fun _ => fun
  | [d] => { results := [.lit (.bool true)], args := [d] }
  | _ => none }
def fnLimitsRow : OpenClaim := { program := "ytkipaefhnmfebaa", sum := "cc783aacb543f44add822cc6e348ad3127a14ec77b4a34b295faf74c4fff4712", func := "loop.example/g00879/laws.FnLimits", spec := "fnLimits", apart := false }
def FnLimitsSaid : Prop := fnLimitsRow.holds Try.pinned (OpenSpec.ofChange fnLimitsSpec)

/-- ITS FALSE NEIGHBOUR: 'it returns false'. Refute it at one input. -/
def fnLimitsWrong : ChangeSpec := { name := "fnLimits", fn := fun _ => fun
  | [d] => { results := [.lit (.bool false)], args := [d] }
  | _ => none }
def FnLimitsWrongFalsely : Prop := fnLimitsRow.holds Try.pinned (OpenSpec.ofChange fnLimitsWrong)

/-- 'laws.FnFinders': WHATEVER THE INPUT: true; the input reads as it did. -/
def fnFindersSpec : ChangeSpec := { name := "fnFinders", fn := fun _ => fun
  | [d] => { results := [.lit (.bool true)], args := [d] }
  | _ => none }
def fnFindersRow : OpenClaim := { program := "ytkipaefhnmfebaa", sum := "cc783aacb543f44add822cc6e348ad3127a14ec77b4a34b295faf74c4fff4712", func := "loop.example/g00879/laws.FnFinders", spec := "fnFinders", unfollowed := true, recurses := true, apart := false }
def FnFindersSaid : Prop := fnFindersRow.holds Try.pinned (OpenSpec.ofChange fnFindersSpec)

/-- ITS FALSE NEIGHBOUR: 'it returns false'. Refute it at one input. -/
def fnFindersWrong : ChangeSpec := { name := "fnFinders", fn := fun _ => fun
  | [d] => { results := [.lit (.bool false)], args := [d] }
  | _ => none }
def FnFindersWrongFalsely : Prop := fnFindersRow.holds Try.pinned (OpenSpec.ofChange fnFindersWrong)

/- THE SECOND FORM. 'bulk': how many values and letters a reading holds, each counted each time it is reached (what is shared counts as often as it is met; a slice's spare places count too). A statement '..UptoSaid' is the law's where the arguments, and the package variables that the reading takes, are together of bulk at most 1048576: NARROWER than '..Said'. Prove '..Said' where nothing that the law and all that it calls make is longer than what came in: it says more and counts as full. Else prove '..UptoSaid'. A law counts once. -/
mutual
def uptoBulk {H : Type} : DataW H → Nat
  | .lit (.string bytes) => bytes.length + 1
  | .lit _ => 1
  | .nil => 1
  | .ptr d => uptoBulk d + 1
  | .slice elems spare => uptoBulkAll elems + uptoBulkAll spare + 1
  | .agg parts => uptoBulkAll parts + 1
  | .iface _ d => uptoBulk d + 1
  | .map entries => uptoBulkEntries entries + 1
  | .held _ => 1
def uptoBulkAll {H : Type} : List (DataW H) → Nat
  | [] => 0
  | d :: r => uptoBulk d + uptoBulkAll r
def uptoBulkEntries {H : Type} : List (Lit × DataW H) → Nat
  | [] => 0
  | x :: r => uptoBulkEntry x + uptoBulkEntries r
def uptoBulkEntry {H : Type} : Lit × DataW H → Nat
  | (.string bytes, d) => bytes.length + uptoBulk d + 1
  | (_, d) => uptoBulk d + 1
 end
def uptoSmall : (H : Type) → List (DataW H) → Bool := fun _ ds => decide (uptoBulkAll ds ≤ 1048576)
def OpenSpec.upto (s : _root_.Go.ChangeSpec) : _root_.Go.OpenSpec := { _root_.Go.OpenSpec.ofChange s with cond := some uptoSmall }

/-- 'laws.FnExactSplitLimit', WHERE WHAT IT READS IS OF BULK AT MOST 1048576: true; the input reads as it did. -/
def fnExactSplitLimitUptoRow : OpenClaim := { program := "ytkipaefhnmfebaa", sum := "cc783aacb543f44add822cc6e348ad3127a14ec77b4a34b295faf74c4fff4712", func := "loop.example/g00879/laws.FnExactSplitLimit", spec := "fnExactSplitLimit", apart := false, narrowed := true }
def FnExactSplitLimitUptoSaid : Prop := fnExactSplitLimitUptoRow.holds Try.pinned (OpenSpec.upto fnExactSplitLimitSpec)

/-- 'laws.FnLimits', WHERE WHAT IT READS IS OF BULK AT MOST 1048576: true; the input reads as it did. -/
def fnLimitsUptoRow : OpenClaim := { program := "ytkipaefhnmfebaa", sum := "cc783aacb543f44add822cc6e348ad3127a14ec77b4a34b295faf74c4fff4712", func := "loop.example/g00879/laws.FnLimits", spec := "fnLimits", apart := false, narrowed := true }
def FnLimitsUptoSaid : Prop := fnLimitsUptoRow.holds Try.pinned (OpenSpec.upto fnLimitsSpec)

/-- 'laws.FnFinders', WHERE WHAT IT READS IS OF BULK AT MOST 1048576: true; the input reads as it did. -/
def fnFindersUptoRow : OpenClaim := { program := "ytkipaefhnmfebaa", sum := "cc783aacb543f44add822cc6e348ad3127a14ec77b4a34b295faf74c4fff4712", func := "loop.example/g00879/laws.FnFinders", spec := "fnFinders", unfollowed := true, recurses := true, apart := false, narrowed := true }
def FnFindersUptoSaid : Prop := fnFindersUptoRow.holds Try.pinned (OpenSpec.upto fnFindersSpec)

end Rows
end Go.Proofs.Ytkipaefhnmfebaa
