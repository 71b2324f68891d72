/-
  A slice of pairs of numbers, each pair a slice of its own: the reference's order of a stream.
-/
import Derived.Test.YtbgcbjfimjfbpaaOrdC
import Derived.Test.YtbgcbjfimjfbpaaWds
import Derived.Test.YtbgcbjfimjfbpaaC05
namespace Go.Proofs.Ytbgcbjfimjfbpaa
set_option linter.unusedSimpArgs false
open Go.RowKit

def prV (g : Nat) : Value := .slice (some ⟨g, 0, none⟩) 2 2
def prVs (gs : Nat → Nat) (n : Nat) : List Value := (List.range n).map fun i => prV (gs i)
theorem prVs_len (gs : Nat → Nat) (n : Nat) : (prVs gs n).length = n := by simp [prVs]
theorem prVs_get {gs : Nat → Nat} {n i : Nat} (h : i < n) : (prVs gs n)[i]? = some (prV (gs i)) := by simp [prVs, h]
def pairL (p : Nat × Nat) : List Int := [(p.1 : Int), (p.2 : Int)]
/-- The slice value v owns the pairs L. -/
structure Prs (w : World) (B : Nat) (v : Value) (L : List (Nat × Nat)) : Prop where
  ex : ∃ gs : Nat → Nat, w.ownsRow B 24 1 v L.length (prVs gs L.length) ∧ ∀ i, i < L.length → B ≤ gs i ∧ RowAt w (gs i) 2 (pairL (L.getD i (0, 0)))
section
variable {w w' : World} {B : Nat} {v : Value} {L : List (Nat × Nat)}
theorem Prs.keep (h : Prs w B v L) (hb : Below w.heap.size w w') : Prs w' B v L := by
  obtain ⟨gs, h1, h2⟩ := h.ex
  exact ⟨gs, row_keep h1 hb, fun i hi => ⟨(h2 i hi).1, (h2 i hi).2.below hb (h2 i hi).2.lt⟩⟩
theorem Prs.to {L' : List (Nat × Nat)} (h : Prs w B v L) (e : L = L') : Prs w B v L' := e ▸ h
theorem Prs.shape (h : Prs w B v L) : ∃ A c, v = .slice A L.length c := by
  obtain ⟨gs, h1, h2⟩ := h.ex
  rcases h1.2 with ⟨rfl, h0⟩ | ⟨g, cap, cur, rfl, _⟩
  · exact ⟨none, 0, by rw [h0]⟩
  · exact ⟨_, cap, rfl⟩
theorem Prs.setLt (h : Prs w B v L) {b k : Nat} (hb : b < B) (u : Value) : Prs (w.setCell ⟨b, k, none⟩ u) B v L := by
  obtain ⟨gs, h1, h2⟩ := h.ex
  refine ⟨gs, ownsRow_setCell_below h1 (a := ⟨b, k, none⟩) hb u, fun i hi => ⟨(h2 i hi).1, RowAt.of (Below.heap_setCell _ _ _ _ ?_) (h2 i hi).2⟩⟩
  have := (h2 i hi).1
  show gs i ≠ b
  omega
/-- One pair: where it lies. -/
theorem Prs.look {A : Option Addr} {n c i : Nat} (h : Prs w B (.slice A n c) L) (hi : i < L.length) : ∃ g gi, A = some ⟨g, 0, none⟩ ∧ g < w.heap.size ∧ gi < w.heap.size ∧ w.cell? ⟨g, i, none⟩ = some (.slice (some ⟨gi, 0, none⟩) 2 2) ∧
    w.cell? ⟨gi, 0, none⟩ = some (.int .i64 ((L.getD i (0, 0)).1 : Nat)) ∧ w.cell? ⟨gi, 1, none⟩ = some (.int .i64 ((L.getD i (0, 0)).2 : Nat)) := by
  obtain ⟨gs, h1, h2⟩ := h.ex
  have hr := (h2 i hi).2
  rcases h1.2 with ⟨h', h0⟩ | ⟨g, cap, cur, h', hB, hg, hr'⟩
  · omega
  · simp only [Value.slice.injEq] at h'
    obtain ⟨rfl, rfl, rfl⟩ := h'
    refine ⟨g, gs i, rfl, lt_of_block hg, hr.lt, ?_, hr.cell (k := 0) (by simp [pairL]), hr.cell (k := 1) (by simp [pairL])⟩
    rw [h1.cellAt i (by omega), prVs_get hi]; rfl
theorem grown_ne {e t b n sz : Nat} {xs : List Value} {cs : Array Value} {o1 o2 : Obj} (h1 : w.ownsRow B e sz v n xs) (hg : ((w.alloc o1).alloc o2).grownBy w' v.ownBlock) (hb : w.heap[b]? = some (.cells cs t (0, 0))) (ht : t ≠ e) : w'.heap[b]? = some (.cells cs t (0, 0)) := by
  have hlt := lt_of_block hb
  refine (hg.block b (by simp; omega) ?_).trans ((Below.heap_alloc _ _ _ (by simp; omega)).trans ((Below.heap_alloc _ _ _ hlt).trans hb))
  rcases h1.2 with ⟨rfl, _⟩ | ⟨g, cap, cur, rfl, hB, hh, _⟩
  · simp [Value.ownBlock]
  · simp only [Value.ownBlock, ne_eq, Option.some.injEq]
    rintro rfl
    rw [hb] at hh
    simp at hh
    exact ht hh.2
theorem Prs.snoc {b e : Nat} {va : Value} {gs : Nat → Nat} {o2 : Obj} (h1 : w.ownsRow B 24 1 v L.length (prVs gs L.length)) (h2 : ∀ i, i < L.length → B ≤ gs i ∧ RowAt w (gs i) 2 (pairL (L.getD i (0, 0)))) (hBw : B ≤ w.heap.size)
    (hown : w'.ownsRow B 24 1 va (L.length + 1) (prVs gs L.length ++ [prV w.heap.size])) (hg : ((w.alloc (.cells #[.int .i64 (b : Nat), .int .i64 (e : Nat)] 2)).alloc o2).grownBy w' v.ownBlock) : Prs w' B va (L ++ [(b, e)]) := by
  refine ⟨fun i => if i = L.length then w.heap.size else gs i, ?_, fun i hi => ?_⟩
  · have e1 : prVs (fun i => if i = L.length then w.heap.size else gs i) (L ++ [(b, e)]).length = prVs gs L.length ++ [prV w.heap.size] := by
      unfold prVs
      rw [List.length_append, List.length_singleton, List.range_succ, List.map_append]
      congr 1
      · apply List.map_congr_left
        intro i hi
        have := List.mem_range.1 hi
        simp only [if_neg (show i ≠ L.length by omega)]
      · simp
    rw [e1, List.length_append]; exact hown
  · by_cases he : i = L.length
    · subst he
      simp only [if_true]
      refine ⟨hBw, ?_⟩
      unfold RowAt
      refine (hg.block _ (by simp; omega) ?_).trans ((Below.heap_alloc _ _ _ (by simp)).trans ((heap_alloc_new _ _).trans ?_))
      · intro hx
        have := (World.ownsRow.lt h1 _ hx.symm).2
        omega
      · simp [pairL]
    · have hi' : i < L.length := by simp at hi; omega
      simp only [if_neg he]
      rw [show (L ++ [(b, e)]).getD i (0, 0) = L.getD i (0, 0) by rw [List.getD_eq_getElem?_getD, List.getD_eq_getElem?_getD, List.getElem?_append_left hi']]
      exact ⟨(h2 i hi').1, grown_ne h1 hg (h2 i hi').2 words_ne⟩
end
theorem Prs.empty {w : World} {B : Nat} (hB : B ≤ w.heap.size) : Prs (w.alloc (.cells #[] 24)) B (.slice (some ⟨w.heap.size, 0, none⟩) 0 0) [] := by
  refine ⟨fun _ => 0, ?_, fun i hi => by simp at hi⟩
  have := World.ownsRow_made (e := 24) (size := 1) (base := B) w #[] 0 hB (by unfold maxLen; omega) rfl
  simpa [prVs] using this
end Go.Proofs.Ytbgcbjfimjfbpaa
