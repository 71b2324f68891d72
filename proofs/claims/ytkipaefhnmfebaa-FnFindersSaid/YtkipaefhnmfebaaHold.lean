/-
  A row of numbers that is known whole: what its cells hold, what a store leaves. No program in sight.
-/
import Derived.Test.YtkipaefhnmfebaaCore
namespace Go.Proofs.Ytkipaefhnmfebaa
open Go.RowKit

/-- Block b of w holds the numbers xs and nothing besides, and may be written. -/
def RowAt (w : World) (b t : Nat) (xs : List Int) : Prop := w.heap[b]? = some (.cells (xs.map (Value.int .i64)).toArray t (0, 0))
section
variable {w w' : World} {b t : Nat} {xs ys : List Int}
theorem RowAt.lt (h : RowAt w b t xs) : b < w.heap.size := lt_of_block h
theorem RowAt.cell (h : RowAt w b t xs) {k : Nat} (hk : k < xs.length) : w.cell? ⟨b, k, none⟩ = some (.int .i64 (nth xs k)) := by
  rw [cell_of_row w b k _ t (0, 0) h]
  simp only [List.getElem?_toArray]
  exact nth_map xs k hk
theorem RowAt.cell0 (h : RowAt w b t xs) {k : Nat} (hk : k < xs.length) : w.cell? ⟨b, 0 + k, none⟩ = some (.int .i64 (nth xs k)) := by
  rw [Nat.zero_add]; exact h.cell hk
theorem RowAt.free (h : RowAt w b t xs) (k : Nat) : w.frozen? ⟨b, k, none⟩ = false := by
  simp [World.frozen?, show w.heap[b]? = some (.cells (xs.map (Value.int .i64)).toArray t (0, 0)) from h]
theorem RowAt.to (h : RowAt w b t xs) (e : xs = ys) : RowAt w b t ys := e ▸ h
theorem RowAt.of (h : w'.heap[b]? = w.heap[b]?) (hr : RowAt w b t xs) : RowAt w' b t xs := by unfold RowAt; rw [h]; exact hr
theorem RowAt.drewN (h : RowAt w b t xs) (m : Nat) : RowAt (w.drewN m) b t xs := h
theorem RowAt.below {B : Nat} (h : RowAt w b t xs) (hb : Below B w w') (hB : b < B) : RowAt w' b t xs := RowAt.of (hb.block b hB) h
theorem RowAt.set (h : RowAt w b t xs) {k : Nat} (u : Int) : RowAt (w.setCell ⟨b, k, none⟩ (.int .i64 u)) b t (xs.set k u) := by
  have hlt := h.lt
  have h' : w.heap[b] = .cells (xs.map (Value.int .i64)).toArray t (0, 0) := by
    have h := (show w.heap[b]? = some (.cells (xs.map (Value.int .i64)).toArray t (0, 0)) from h)
    simpa [Array.getElem?_eq_getElem hlt] using h
  show (w.heap.modify b _)[b]? = _
  rw [Array.getElem?_eq_getElem (by simpa using hlt), Array.getElem_modify_self, h']
  simp [List.map_set]
theorem RowAt.RI {B n : Nat} (h : RowAt w b t xs) (hB : b < B) (hn : xs.length = n) : RI w B (some ⟨b, 0, none⟩) n xs := RI.of_block h rfl hB hn
theorem RowAt.made {cs : Array Value} (e : cs = (xs.map (Value.int .i64)).toArray) : RowAt (w.alloc (.cells cs t)) w.heap.size t xs := by
  subst e; exact heap_alloc_new w _
end
theorem grown_drewN {a w : World} {b : Nat} (h : a.grownBy w (some b)) (m : Nat) : a.grownBy (w.drewN m) (some b) := ⟨h.os, h.tape, h.output, h.size, h.block⟩
theorem grown_set {a w : World} {b k : Nat} (h : a.grownBy w (some b)) (u : Value) : a.grownBy (w.setCell ⟨b, k, none⟩ u) (some b) :=
  ⟨h.os, h.tape, h.output, by simpa using h.size, fun j hj hne => by
    rw [Below.heap_setCell _ _ _ _ (fun e => hne (by rw [e]))]; exact h.block j hj hne⟩
/-- What is owned is written: below the block all is as before. -/
theorem below_grown {a w w1 : World} {B b : Nat} (h : Below B a w) (hg : w.grownBy w1 (some b)) (hB : B ≤ w.heap.size) (hb : B ≤ b) : Below B a w1 :=
  h.grown hg hB (fun k hk => by cases hk; exact hb)
theorem set_mix {xs ys : List Int} {k : Nat} (hl : xs.length = ys.length) (hk : k < xs.length) : (ys.take k ++ xs.drop k).set k (nth ys k) = ys.take (k + 1) ++ xs.drop (k + 1) := by
  have h1 : (ys.take k).length = k := by rw [List.length_take]; omega
  rw [List.set_append_right _ _ (by omega), h1, Nat.sub_self, List.drop_eq_getElem_cons hk, List.set_cons_zero, take_nth (by omega), List.append_assoc]
  rfl
theorem nth_mix {xs ys : List Int} {k : Nat} (hl : xs.length = ys.length) (hk : k < xs.length) : nth (ys.take k ++ xs.drop k) k = nth xs k := by
  have h1 : (ys.take k).length = k := by rw [List.length_take]; omega
  unfold nth
  rw [List.getD_eq_getElem?_getD, List.getElem?_append_right (by omega), h1, Nat.sub_self, List.getElem?_drop, List.getD_eq_getElem?_getD]
  simp
theorem len_mix {xs ys : List Int} {k : Nat} (hl : xs.length = ys.length) (hk : k ≤ xs.length) : (ys.take k ++ xs.drop k).length = xs.length := by
  rw [List.length_append, List.length_take, List.length_drop]; omega
end Go.Proofs.Ytkipaefhnmfebaa
