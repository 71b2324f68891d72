/-
  Drawn regions in which a call makes a slice of numbers that it hands over.
-/
import Derived.Test.YtkipaefhnmfebaaRegion
import Derived.Test.YtkipaefhnmfebaaSlice
namespace Go.Proofs.Ytkipaefhnmfebaa
open Go.RowKit

def Mkr.own (xs : List Int) : Mkr where
  R v lo hi w := Own w lo v xs ∧ ∀ k, v.ownBlock = some k → k < hi
  keep := fun ⟨h, hlt⟩ _ hb => by
    refine ⟨⟨h.1, ?_⟩, hlt⟩
    rcases h.2 with h' | ⟨g, cap, cur, rfl, hB, hg, hr⟩
    · exact .inl h'
    · exact .inr ⟨g, cap, cur, rfl, hB, (hb.block g (hlt g rfl)).trans hg, hr⟩
theorem own_call {P : Program} {f : FuncId} {args : Array Value} {w : World} {xs : List Int}
    (h : Calls P f args w fun e w' => ∃ v', e = .returned v' ∧ Own w' w.heap.size v' xs ∧ Below w.heap.size w w') :
    Calls P f args w fun e w' => ∃ u, e = .returned u ∧ Below w.heap.size w w' ∧ (Mkr.own xs).R u w.heap.size w'.heap.size w' :=
  h.mono fun _ _ ⟨v', h1, h2, h3⟩ => ⟨v', h1, h3, h2, fun k hk => (World.ownsRow.lt h2 k hk).2⟩
end Go.Proofs.Ytkipaefhnmfebaa
