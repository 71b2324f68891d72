/-
  Contracts of chapter 14: a cell of a grid set, a cell read; the program's grid of the fixed cells.
-/
import Derived.Test.YtkipaefhnmfebaaC14B
import Derived.Test.YtkipaefhnmfebaaC14H
namespace Go.Proofs.Ytkipaefhnmfebaa
set_option linter.unusedSimpArgs false
open Go.RowKit

theorem grown_alloc {a w : World} {r : Option Nat} (h : a.grownBy w r) (o : Obj) : a.grownBy (w.alloc o) r :=
  ⟨h.os, h.tape, h.output, by have := h.size; simp; omega, fun j hj hne => (Below.heap_alloc _ _ _ (by have := h.size; omega)).trans (h.block j hj hne)⟩
theorem grown_below {a w w' : World} {r : Option Nat} (h : a.grownBy w r) (hb : Below w.heap.size w w') : a.grownBy w' r :=
  ⟨hb.os.trans h.os, hb.tape.trans h.tape, hb.output.trans h.output, Nat.le_trans h.size hb.size, fun j hj hne => (hb.block j (Nat.lt_of_lt_of_le hj h.size)).trans (h.block j hj hne)⟩
set_option maxHeartbeats 1000000 in
theorem set_any (R C r c x : Int) (g cp P K : Nat) (xs : List Int) (w : World) (B : Nat) (ho : Own w B (.slice (some ⟨g, 0, none⟩) P cp) xs) (hl : xs.length = P) (hP : P ≤ 1000000) (hK : r * C + c = (K : Int)) (hKP : K < P) (hc : 0 ≤ c ∧ c ≤ 1000000) (hg : g < w.heap.size) :
    Calls Try.prog 75 #[.agg #[.int .i64 R, .int .i64 C, .slice (some ⟨g, 0, none⟩) P cp], .agg #[.int .i64 r, .int .i64 c], .int .i64 x] w fun e w' =>
      e = .returned (.tuple #[]) ∧ Own w' B (.slice (some ⟨g, 0, none⟩) P cp) (xs.set K x) ∧ w.grownBy w' (some g) := by
  obtain ⟨g', c', e', hB', hg', hc', hf'⟩ := ho.row (by omega)
  obtain ⟨rfl, rfl⟩ : g = g' ∧ cp = c' := by
    simp only [Value.slice.injEq, Option.some.injEq, Addr.mk.injEq, and_true] at e'
    exact ⟨e'.1, e'.2.2⟩
  have hck := hc' K (by omega)
  have hfk := hf' K
  have HO := Lib.hid ho
  have HL := Lib.hid hl
  clear ho hc' hf' e' hB' hl hg'
  go_enter Try.func75, Try.ntmps75
  go_wp2_with fail
  first | go_ret | go_returns
  exact ⟨rfl, (Own.setn HL.out HO.out).keep (by go_grown), grown_alloc (grown_alloc (grown_set (World.grownBy.refl _ _) _) _) _⟩
/-- The block of the kinds of fixed cells. -/
def kindObj : Obj := .cells #[.func (.func 91) #[] #[], .func (.func 93) #[] #[], .func (.func 95) #[] #[], .func (.func 96) #[] #[], .func (.func 97) #[] #[], .func (.func 98) #[] #[], .func (.func 99) #[] #[], .func (.func 100) #[] #[]] 107
theorem kind_cells {w : World} {g : Nat} (h : w.heap[g]? = some kindObj) :
    (w.cell? ⟨g, 0, none⟩ = some (.func (.func 91) #[] #[]) ∧ w.cell? ⟨g, 1, none⟩ = some (.func (.func 93) #[] #[])) ∧ (w.cell? ⟨g, 2, none⟩ = some (.func (.func 95) #[] #[]) ∧ w.cell? ⟨g, 3, none⟩ = some (.func (.func 96) #[] #[])) ∧
    (w.cell? ⟨g, 4, none⟩ = some (.func (.func 97) #[] #[]) ∧ w.cell? ⟨g, 5, none⟩ = some (.func (.func 98) #[] #[])) ∧ (w.cell? ⟨g, 6, none⟩ = some (.func (.func 99) #[] #[]) ∧ w.cell? ⟨g, 7, none⟩ = some (.func (.func 100) #[] #[])) := by
  unfold kindObj at h
  refine ⟨⟨?_, ?_⟩, ⟨?_, ?_⟩, ⟨?_, ?_⟩, ?_, ?_⟩ <;> simp [World.cell?, h]
theorem patterns_any (w : World) :
    Calls Try.prog 74 #[] w fun e w' => e = .returned (.slice (some ⟨w.heap.size, 0, none⟩) 4 4) ∧ w' = w.alloc kindObj := by
  go_enter Try.func74, Try.ntmps74
  go_wp2_with fail
  go_ret
  exact ⟨rfl, rfl⟩
end Go.Proofs.Ytkipaefhnmfebaa
