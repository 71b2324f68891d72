/-
  No cell of these rows narrows 'for every input' (looked for: loops, veiled, ifaces, maps, wideKeys, modest, calm, conditions, laid).
  DERIVED. THE GIVEN ROWS OF THIS SEAT. 9 by the template 'for every input the law returns true; each argument reads behind the call as it read before'; 0 by the template 'total and deterministic' (their statements: YtnhhbpdjapccpaaTotals.lean).
  GIVEN WITH THE SEED: the statements are not yours to turn. If you find one false, say at which input.
  Laid BY PROGRAM, IN A SANDBOX (cutbox-rows.mjs): the forced cells as the released guide's own fill.sh prints them over the translation 343bfa355c81f2b3… (all of the seat's roots in one cut). By AI agents, Wed Nov 11 2026. No macro, syntax, notation, axiom, sorry.
-/
import Derived.Test.YtnhhbpdjapccpaaChecked
import GoSem.Claim
import GoSem.ClaimJoined
import GoSem.ClaimMapViews
import Derived.JoinedTies
import Derived.KernelRfl
namespace Go.Proofs.Ytnhhbpdjapccpaa
/- THE CELL 'sum', in the pinned program and in every row, IS THE sha256 OF THE DUMP (.gsa) THAT YtnhhbpdjapccpaaProg.lean LOADS. Nothing in Lean hashes anything: it is a label: what it is worth is what the hold of that sum in a sandbox is worth. -/
noncomputable def Try.pinned : Pinned := { name := "ytnhhbpdjapccpaa", sum := "343bfa355c81f2b3b6d6dad2bb901d390bc1794449ed082eeadc6527e299fd4c", checked := Try.checked }
namespace Rows
def none {H : Type} : Left H := { results := [], args := [] }

/-- 'laws.FnExactIsSampling': WHATEVER THE INPUT: true; the input reads as it did. -/
def fnExactIsSamplingSpec : ChangeSpec := { name := "fnExactIsSampling", fn := fun _ => fun
  | [d] => { results := [.lit (.bool true)], args := [d] }
  | _ => none }
def fnExactIsSamplingRow : OpenClaim := { program := "ytnhhbpdjapccpaa", sum := "343bfa355c81f2b3b6d6dad2bb901d390bc1794449ed082eeadc6527e299fd4c", func := "loop.example/g00879/laws.FnExactIsSampling", spec := "fnExactIsSampling", apart := false }
def FnExactIsSamplingSaid : Prop := fnExactIsSamplingRow.holds Try.pinned (OpenSpec.ofChange fnExactIsSamplingSpec)

/-- ITS FALSE NEIGHBOUR: 'it returns false'. Refute it at one input. -/
def fnExactIsSamplingWrong : ChangeSpec := { name := "fnExactIsSampling", fn := fun _ => fun
  | [d] => { results := [.lit (.bool false)], args := [d] }
  | _ => none }
def FnExactIsSamplingWrongFalsely : Prop := fnExactIsSamplingRow.holds Try.pinned (OpenSpec.ofChange fnExactIsSamplingWrong)

/-- 'laws.FnExactIsMap': WHATEVER THE INPUT: true; the input reads as it did. -/
def fnExactIsMapSpec : ChangeSpec := { name := "fnExactIsMap", fn := fun _ => fun
  | [d] => { results := [.lit (.bool true)], args := [d] }
  | _ => none }
def fnExactIsMapRow : OpenClaim := { program := "ytnhhbpdjapccpaa", sum := "343bfa355c81f2b3b6d6dad2bb901d390bc1794449ed082eeadc6527e299fd4c", func := "loop.example/g00879/laws.FnExactIsMap", spec := "fnExactIsMap", apart := false }
def FnExactIsMapSaid : Prop := fnExactIsMapRow.holds Try.pinned (OpenSpec.ofChange fnExactIsMapSpec)

/-- ITS FALSE NEIGHBOUR: 'it returns false'. Refute it at one input. -/
def fnExactIsMapWrong : ChangeSpec := { name := "fnExactIsMap", fn := fun _ => fun
  | [d] => { results := [.lit (.bool false)], args := [d] }
  | _ => none }
def FnExactIsMapWrongFalsely : Prop := fnExactIsMapRow.holds Try.pinned (OpenSpec.ofChange fnExactIsMapWrong)

/-- 'laws.FnExactIsAffine': WHATEVER THE INPUT: true; the input reads as it did. -/
def fnExactIsAffineSpec : ChangeSpec := { name := "fnExactIsAffine", fn := fun _ => fun
  | [d] => { results := [.lit (.bool true)], args := [d] }
  | _ => none }
def fnExactIsAffineRow : OpenClaim := { program := "ytnhhbpdjapccpaa", sum := "343bfa355c81f2b3b6d6dad2bb901d390bc1794449ed082eeadc6527e299fd4c", func := "loop.example/g00879/laws.FnExactIsAffine", spec := "fnExactIsAffine", apart := false }
def FnExactIsAffineSaid : Prop := fnExactIsAffineRow.holds Try.pinned (OpenSpec.ofChange fnExactIsAffineSpec)

/-- ITS FALSE NEIGHBOUR: 'it returns false'. Refute it at one input. -/
def fnExactIsAffineWrong : ChangeSpec := { name := "fnExactIsAffine", fn := fun _ => fun
  | [d] => { results := [.lit (.bool false)], args := [d] }
  | _ => none }
def FnExactIsAffineWrongFalsely : Prop := fnExactIsAffineRow.holds Try.pinned (OpenSpec.ofChange fnExactIsAffineWrong)

/-- 'laws.FnExactMapPoint': WHATEVER THE INPUT: true; the input reads as it did. -/
def fnExactMapPointSpec : ChangeSpec := { name := "fnExactMapPoint", fn := fun _ => fun
  | [d1, d2, d3, d4] => { results := [.lit (.bool true)], args := [d1, d2, d3, d4] }
  | _ => none }
def fnExactMapPointRow : OpenClaim := { program := "ytnhhbpdjapccpaa", sum := "343bfa355c81f2b3b6d6dad2bb901d390bc1794449ed082eeadc6527e299fd4c", func := "loop.example/g00879/laws.FnExactMapPoint", spec := "fnExactMapPoint", apart := false }
def FnExactMapPointSaid : Prop := fnExactMapPointRow.holds Try.pinned (OpenSpec.ofChange fnExactMapPointSpec)

/-- ITS FALSE NEIGHBOUR: 'it returns false'. Refute it at one input. -/
def fnExactMapPointWrong : ChangeSpec := { name := "fnExactMapPoint", fn := fun _ => fun
  | [d1, d2, d3, d4] => { results := [.lit (.bool false)], args := [d1, d2, d3, d4] }
  | _ => none }
def FnExactMapPointWrongFalsely : Prop := fnExactMapPointRow.holds Try.pinned (OpenSpec.ofChange fnExactMapPointWrong)

/-- 'laws.FnExactMapSpot': WHATEVER THE INPUT: true; the input reads as it did. -/
def fnExactMapSpotSpec : ChangeSpec := { name := "fnExactMapSpot", fn := fun _ => fun
  | [d1, d2, d3, d4] => { results := [.lit (.bool true)], args := [d1, d2, d3, d4] }
  | _ => none }
def fnExactMapSpotRow : OpenClaim := { program := "ytnhhbpdjapccpaa", sum := "343bfa355c81f2b3b6d6dad2bb901d390bc1794449ed082eeadc6527e299fd4c", func := "loop.example/g00879/laws.FnExactMapSpot", spec := "fnExactMapSpot", apart := false }
def FnExactMapSpotSaid : Prop := fnExactMapSpotRow.holds Try.pinned (OpenSpec.ofChange fnExactMapSpotSpec)

/-- ITS FALSE NEIGHBOUR: 'it returns false'. Refute it at one input. -/
def fnExactMapSpotWrong : ChangeSpec := { name := "fnExactMapSpot", fn := fun _ => fun
  | [d1, d2, d3, d4] => { results := [.lit (.bool false)], args := [d1, d2, d3, d4] }
  | _ => none }
def FnExactMapSpotWrongFalsely : Prop := fnExactMapSpotRow.holds Try.pinned (OpenSpec.ofChange fnExactMapSpotWrong)

/-- 'laws.FnExactMapOfQuad': WHATEVER THE INPUT: true; the input reads as it did. -/
def fnExactMapOfQuadSpec : ChangeSpec := { name := "fnExactMapOfQuad", fn := fun _ => fun
  | [d] => { results := [.lit (.bool true)], args := [d] }
  | _ => none }
def fnExactMapOfQuadRow : OpenClaim := { program := "ytnhhbpdjapccpaa", sum := "343bfa355c81f2b3b6d6dad2bb901d390bc1794449ed082eeadc6527e299fd4c", func := "loop.example/g00879/laws.FnExactMapOfQuad", spec := "fnExactMapOfQuad", apart := false }
def FnExactMapOfQuadSaid : Prop := fnExactMapOfQuadRow.holds Try.pinned (OpenSpec.ofChange fnExactMapOfQuadSpec)

/-- ITS FALSE NEIGHBOUR: 'it returns false'. Refute it at one input. -/
def fnExactMapOfQuadWrong : ChangeSpec := { name := "fnExactMapOfQuad", fn := fun _ => fun
  | [d] => { results := [.lit (.bool false)], args := [d] }
  | _ => none }
def FnExactMapOfQuadWrongFalsely : Prop := fnExactMapOfQuadRow.holds Try.pinned (OpenSpec.ofChange fnExactMapOfQuadWrong)

/-- 'laws.FnExactQuadOfMap': WHATEVER THE INPUT: true; the input reads as it did. -/
def fnExactQuadOfMapSpec : ChangeSpec := { name := "fnExactQuadOfMap", fn := fun _ => fun
  | [d] => { results := [.lit (.bool true)], args := [d] }
  | _ => none }
def fnExactQuadOfMapRow : OpenClaim := { program := "ytnhhbpdjapccpaa", sum := "343bfa355c81f2b3b6d6dad2bb901d390bc1794449ed082eeadc6527e299fd4c", func := "loop.example/g00879/laws.FnExactQuadOfMap", spec := "fnExactQuadOfMap", apart := false }
def FnExactQuadOfMapSaid : Prop := fnExactQuadOfMapRow.holds Try.pinned (OpenSpec.ofChange fnExactQuadOfMapSpec)

/-- ITS FALSE NEIGHBOUR: 'it returns false'. Refute it at one input. -/
def fnExactQuadOfMapWrong : ChangeSpec := { name := "fnExactQuadOfMap", fn := fun _ => fun
  | [d] => { results := [.lit (.bool false)], args := [d] }
  | _ => none }
def FnExactQuadOfMapWrongFalsely : Prop := fnExactQuadOfMapRow.holds Try.pinned (OpenSpec.ofChange fnExactQuadOfMapWrong)

/-- 'laws.FnMapPoints': WHATEVER THE INPUT: true; the input reads as it did. -/
def fnMapPointsSpec : ChangeSpec := { name := "fnMapPoints", fn := fun _ => fun
  | [d] => { results := [.lit (.bool true)], args := [d] }
  | _ => none }
def fnMapPointsRow : OpenClaim := { program := "ytnhhbpdjapccpaa", sum := "343bfa355c81f2b3b6d6dad2bb901d390bc1794449ed082eeadc6527e299fd4c", func := "loop.example/g00879/laws.FnMapPoints", spec := "fnMapPoints", apart := false }
def FnMapPointsSaid : Prop := fnMapPointsRow.holds Try.pinned (OpenSpec.ofChange fnMapPointsSpec)

/-- ITS FALSE NEIGHBOUR: 'it returns false'. Refute it at one input. -/
def fnMapPointsWrong : ChangeSpec := { name := "fnMapPoints", fn := fun _ => fun
  | [d] => { results := [.lit (.bool false)], args := [d] }
  | _ => none }
def FnMapPointsWrongFalsely : Prop := fnMapPointsRow.holds Try.pinned (OpenSpec.ofChange fnMapPointsWrong)

/-- 'laws.FnCorners': WHATEVER THE INPUT: true; the input reads as it did. -/
def fnCornersSpec : ChangeSpec := { name := "fnCorners", fn := fun _ => fun
  | [d] => { results := [.lit (.bool true)], args := [d] }
  | _ => none }
def fnCornersRow : OpenClaim := { program := "ytnhhbpdjapccpaa", sum := "343bfa355c81f2b3b6d6dad2bb901d390bc1794449ed082eeadc6527e299fd4c", func := "loop.example/g00879/laws.FnCorners", spec := "fnCorners", inPlace := ["math.sqrt"], apart := false }
def FnCornersSaid : Prop := fnCornersRow.holds Try.pinned (OpenSpec.ofChange fnCornersSpec)

/-- ITS FALSE NEIGHBOUR: 'it returns false'. Refute it at one input. -/
def fnCornersWrong : ChangeSpec := { name := "fnCorners", fn := fun _ => fun
  | [d] => { results := [.lit (.bool false)], args := [d] }
  | _ => none }
def FnCornersWrongFalsely : Prop := fnCornersRow.holds Try.pinned (OpenSpec.ofChange fnCornersWrong)

/- THE SECOND FORM. 'bulk': how many values and letters a reading holds, each counted each time it is reached (what is shared counts as often as it is met; a slice's spare places count too). A statement '..UptoSaid' is the law's where the arguments, and the package variables that the reading takes, are together of bulk at most 1048576: NARROWER than '..Said'. Prove '..Said' where nothing that the law and all that it calls make is longer than what came in: it says more and counts as full. Else prove '..UptoSaid'. A law counts once. -/
mutual
def uptoBulk {H : Type} : DataW H → Nat
  | .lit (.string bytes) => bytes.length + 1
  | .lit _ => 1
  | .nil => 1
  | .ptr d => uptoBulk d + 1
  | .slice elems spare => uptoBulkAll elems + uptoBulkAll spare + 1
  | .agg parts => uptoBulkAll parts + 1
  | .iface _ d => uptoBulk d + 1
  | .map entries => uptoBulkEntries entries + 1
  | .held _ => 1
def uptoBulkAll {H : Type} : List (DataW H) → Nat
  | [] => 0
  | d :: r => uptoBulk d + uptoBulkAll r
def uptoBulkEntries {H : Type} : List (Lit × DataW H) → Nat
  | [] => 0
  | x :: r => uptoBulkEntry x + uptoBulkEntries r
def uptoBulkEntry {H : Type} : Lit × DataW H → Nat
  | (.string bytes, d) => bytes.length + uptoBulk d + 1
  | (_, d) => uptoBulk d + 1
 end
def uptoSmall : (H : Type) → List (DataW H) → Bool := fun _ ds => decide (uptoBulkAll ds ≤ 1048576)
def OpenSpec.upto (s : _root_.Go.ChangeSpec) : _root_.Go.OpenSpec := { _root_.Go.OpenSpec.ofChange s with cond := some uptoSmall }

/-- 'laws.FnExactIsSampling', WHERE WHAT IT READS IS OF BULK AT MOST 1048576: true; the input reads as it did. -/
def fnExactIsSamplingUptoRow : OpenClaim := { program := "ytnhhbpdjapccpaa", sum := "343bfa355c81f2b3b6d6dad2bb901d390bc1794449ed082eeadc6527e299fd4c", func := "loop.example/g00879/laws.FnExactIsSampling", spec := "fnExactIsSampling", apart := false, narrowed := true }
def FnExactIsSamplingUptoSaid : Prop := fnExactIsSamplingUptoRow.holds Try.pinned (OpenSpec.upto fnExactIsSamplingSpec)

/-- 'laws.FnExactIsMap', WHERE WHAT IT READS IS OF BULK AT MOST 1048576: true; the input reads as it did. -/
def fnExactIsMapUptoRow : OpenClaim := { program := "ytnhhbpdjapccpaa", sum := "343bfa355c81f2b3b6d6dad2bb901d390bc1794449ed082eeadc6527e299fd4c", func := "loop.example/g00879/laws.FnExactIsMap", spec := "fnExactIsMap", apart := false, narrowed := true }
def FnExactIsMapUptoSaid : Prop := fnExactIsMapUptoRow.holds Try.pinned (OpenSpec.upto fnExactIsMapSpec)

/-- 'laws.FnExactIsAffine', WHERE WHAT IT READS IS OF BULK AT MOST 1048576: true; the input reads as it did. -/
def fnExactIsAffineUptoRow : OpenClaim := { program := "ytnhhbpdjapccpaa", sum := "343bfa355c81f2b3b6d6dad2bb901d390bc1794449ed082eeadc6527e299fd4c", func := "loop.example/g00879/laws.FnExactIsAffine", spec := "fnExactIsAffine", apart := false, narrowed := true }
def FnExactIsAffineUptoSaid : Prop := fnExactIsAffineUptoRow.holds Try.pinned (OpenSpec.upto fnExactIsAffineSpec)

/-- 'laws.FnExactMapPoint', WHERE WHAT IT READS IS OF BULK AT MOST 1048576: true; the input reads as it did. -/
def fnExactMapPointUptoRow : OpenClaim := { program := "ytnhhbpdjapccpaa", sum := "343bfa355c81f2b3b6d6dad2bb901d390bc1794449ed082eeadc6527e299fd4c", func := "loop.example/g00879/laws.FnExactMapPoint", spec := "fnExactMapPoint", apart := false, narrowed := true }
def FnExactMapPointUptoSaid : Prop := fnExactMapPointUptoRow.holds Try.pinned (OpenSpec.upto fnExactMapPointSpec)

/-- 'laws.FnExactMapSpot', WHERE WHAT IT READS IS OF BULK AT MOST 1048576: true; the input reads as it did. -/
def fnExactMapSpotUptoRow : OpenClaim := { program := "ytnhhbpdjapccpaa", sum := "343bfa355c81f2b3b6d6dad2bb901d390bc1794449ed082eeadc6527e299fd4c", func := "loop.example/g00879/laws.FnExactMapSpot", spec := "fnExactMapSpot", apart := false, narrowed := true }
def FnExactMapSpotUptoSaid : Prop := fnExactMapSpotUptoRow.holds Try.pinned (OpenSpec.upto fnExactMapSpotSpec)

/-- 'laws.FnExactMapOfQuad', WHERE WHAT IT READS IS OF BULK AT MOST 1048576: true; the input reads as it did. -/
def fnExactMapOfQuadUptoRow : OpenClaim := { program := "ytnhhbpdjapccpaa", sum := "343bfa355c81f2b3b6d6dad2bb901d390bc1794449ed082eeadc6527e299fd4c", func := "loop.example/g00879/laws.FnExactMapOfQuad", spec := "fnExactMapOfQuad", apart := false, narrowed := true }
def FnExactMapOfQuadUptoSaid : Prop := fnExactMapOfQuadUptoRow.holds Try.pinned (OpenSpec.upto fnExactMapOfQuadSpec)

/-- 'laws.FnExactQuadOfMap', WHERE WHAT IT READS IS OF BULK AT MOST 1048576: true; the input reads as it did. -/
def fnExactQuadOfMapUptoRow : OpenClaim := { program := "ytnhhbpdjapccpaa", sum := "343bfa355c81f2b3b6d6dad2bb901d390bc1794449ed082eeadc6527e299fd4c", func := "loop.example/g00879/laws.FnExactQuadOfMap", spec := "fnExactQuadOfMap", apart := false, narrowed := true }
def FnExactQuadOfMapUptoSaid : Prop := fnExactQuadOfMapUptoRow.holds Try.pinned (OpenSpec.upto fnExactQuadOfMapSpec)

/-- 'laws.FnMapPoints', WHERE WHAT IT READS IS OF BULK AT MOST 1048576: true; the input reads as it did. -/
def fnMapPointsUptoRow : OpenClaim := { program := "ytnhhbpdjapccpaa", sum := "343bfa355c81f2b3b6d6dad2bb901d390bc1794449ed082eeadc6527e299fd4c", func := "loop.example/g00879/laws.FnMapPoints", spec := "fnMapPoints", apart := false, narrowed := true }
def FnMapPointsUptoSaid : Prop := fnMapPointsUptoRow.holds Try.pinned (OpenSpec.upto fnMapPointsSpec)

/-- 'laws.FnCorners', WHERE WHAT IT READS IS OF BULK AT MOST 1048576: true; the input reads as it did. -/
def fnCornersUptoRow : OpenClaim := { program := "ytnhhbpdjapccpaa", sum := "343bfa355c81f2b3b6d6dad2bb901d390bc1794449ed082eeadc6527e299fd4c", func := "loop.example/g00879/laws.FnCorners", spec := "fnCorners", inPlace := ["math.sqrt"], apart := false, narrowed := true }
def FnCornersUptoSaid : Prop := fnCornersUptoRow.holds Try.pinned (OpenSpec.upto fnCornersSpec)

end Rows
end Go.Proofs.Ytnhhbpdjapccpaa
