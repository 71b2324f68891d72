/-
  Slices of places that a call has made: they own their cells, two a place.
-/
import Derived.Test.YtnhhbpdjapccpaaSlice
import Derived.Test.YtnhhbpdjapccpaaToS
import Derived.Test.YtnhhbpdjapccpaaLst
import Derived.Maps.AppendAt
namespace Go.Proofs.Ytnhhbpdjapccpaa
open Go.RowKit

/-- The cells of places. -/
def pc : List (Int × Int) → List Value
  | [] => []
  | p :: ps => .int .i64 p.1 :: .int .i64 p.2 :: pc ps
theorem pc_len (ps : List (Int × Int)) : (pc ps).length = ps.length * 2 := by
  induction ps with
  | nil => rfl
  | cons p ps ih => simp only [pc, List.length_cons, ih]; omega
theorem pc_append (ps qs : List (Int × Int)) : pc (ps ++ qs) = pc ps ++ pc qs := by
  induction ps with
  | nil => rfl
  | cons p ps ih => simp [pc, ih]
/-- A place of a list. -/
def nthP (ps : List (Int × Int)) (k : Nat) : Int × Int := ps.getD k (0, 0)
theorem nthP_lt {ps : List (Int × Int)} {k : Nat} (h : k < ps.length) : nthP ps k = ps[k] := by
  unfold nthP; simp [h]
theorem nthP_mem {ps : List (Int × Int)} {k : Nat} (h : k < ps.length) : nthP ps k ∈ ps := by
  rw [nthP_lt h]; exact List.getElem_mem h
theorem take_nthP {ps : List (Int × Int)} {k : Nat} (h : k < ps.length) : ps.take (k + 1) = ps.take k ++ [nthP ps k] := by
  rw [nthP_lt h, List.take_succ_eq_append_getElem h]
theorem pc_at : ∀ {ps : List (Int × Int)} {k : Nat}, k < ps.length → (pc ps)[k * 2]? = some (.int .i64 (nthP ps k).1) ∧ (pc ps)[k * 2 + 1]? = some (.int .i64 (nthP ps k).2) := by
  intro ps
  induction ps with
  | nil => intro k h; simp at h
  | cons p ps ih =>
    intro k h
    cases k with
    | zero => exact ⟨rfl, rfl⟩
    | succ k =>
      have := ih (k := k) (by simpa using h)
      rw [show (k + 1) * 2 = k * 2 + 1 + 1 by omega]
      unfold nthP at this ⊢
      simpa [pc] using this
theorem pc_ok (ps : List (Int × Int)) : ∀ u ∈ pc ps, u.oneCell' = true := by
  induction ps with
  | nil => intro u hu; simp [pc] at hu
  | cons p ps ih =>
    intro u hu
    simp only [pc, List.mem_cons] at hu
    rcases hu with rfl | rfl | hu
    · rfl
    · rfl
    · exact ih u hu
theorem cells_news (w : World) (cs : List Value) (t : TypeId) : ∀ j u, cs[j]? = some u → (w.alloc (.cells cs.toArray t)).cell? ((⟨w.heap.size, 0, none⟩ : Addr).add j) = some u := by
  intro j u hj
  have hadd : (⟨w.heap.size, 0, none⟩ : Addr).add j = ⟨w.heap.size, j, none⟩ := by unfold Addr.add; split <;> simp_all
  rw [hadd, cell_of_row _ _ j cs.toArray t (0, 0) (heap_alloc_new w _)]
  simpa using hj
theorem cells_news_at (w : World) (cs : List Value) (t : TypeId) {b : Nat} (hb : b = w.heap.size) : ∀ j u, cs[j]? = some u → (w.alloc (.cells cs.toArray t)).cell? ((⟨b, 0, none⟩ : Addr).add j) = some u := by
  subst hb; exact cells_news w cs t
end Go.Proofs.Ytnhhbpdjapccpaa
