/-
  What the laws of printing draw: grids. Printed by gen/drb.py.
-/
import Derived.Test.YtbgcbjfimjfbpaaBx
import Derived.Test.YtbgcbjfimjfbpaaLst
import Derived.Test.YtbgcbjfimjfbpaaToS
import Derived.Test.YtbgcbjfimjfbpaaC14B
import Derived.Deep.RegionHeld3
namespace Go.Proofs.Ytbgcbjfimjfbpaa
set_option linter.unusedSimpArgs false
open Go.RowKit

theorem pick_lit {W : World} {g t k : Nat} {cs : Array Value} {v : Value} (hh : W.heap[g]? = some (.cells cs t (0, 0))) (h : cs[k]? = some v) : W.cell? ⟨g, k, none⟩ = some v := (blk_cell hh k).trans h
theorem Own.bx {s : SP} {B : Nat} {v : Value} {xs : List Int} {w w' : World} (h : Own w B v xs) (hb : BX s w.heap.size w w') (hs : s.b < B) : Own w' B v xs := by
  refine ⟨h.1, ?_⟩
  rcases h.2 with h' | ⟨g, cap, cur, rfl, hB, hg, hr⟩
  · exact .inl h'
  · exact .inr ⟨g, cap, cur, rfl, hB, (hb.block g (lt_of_block hg) (by omega)).trans hg, hr⟩

theorem pick_in {xs : List Int} {lo hi : Int} (hx : allIn lo hi xs = true) {r : Int} (h0 : 0 ≤ r) (h1 : r < xs.length) : ∃ (R : Nat) (v : Int), r = R ∧ R < xs.length ∧ (xs.map (Value.int .i64)).toArray[R]? = some (.int .i64 v) ∧ lo ≤ v ∧ v ≤ hi := by
  obtain ⟨R, rfl⟩ := Int.eq_ofNat_of_zero_le h0
  have hR : R < xs.length := by omega
  have := allIn_nth hx hR
  exact ⟨R, nth xs R, rfl, hR, by simpa using nth_map xs R hR, this.1, this.2⟩

/-- What a grid that is drawn looks like. -/
def DGB (w : World) (B : Nat) (u : Value) : Prop := ∃ (r c : Int) (v : Value) (xs : List Int), u = .agg #[.int .i64 r, .int .i64 c, v] ∧ 1 ≤ xs.length ∧ xs.length ≤ 1700 ∧ Own w B v xs ∧ -2 ≤ r ∧ r ≤ 40001 ∧ -2 ≤ c ∧ c ≤ 40001

end Go.Proofs.Ytbgcbjfimjfbpaa
