/-
  Slices of places that a call has made: they own their cells, two a place.
-/
import Derived.Test.YtkipaefhnmfebaaSlice
import Derived.Test.YtkipaefhnmfebaaToS
import Derived.Test.YtkipaefhnmfebaaLst
import Derived.Maps.AppendAt
namespace Go.Proofs.Ytkipaefhnmfebaa
open Go.RowKit

/-- The cells of places. -/
def pc : List (Int × Int) → List Value
  | [] => []
  | p :: ps => .int .i64 p.1 :: .int .i64 p.2 :: pc ps
theorem pc_len (ps : List (Int × Int)) : (pc ps).length = ps.length * 2 := by
  induction ps with
  | nil => rfl
  | cons p ps ih => simp only [pc, List.length_cons, ih]; omega
theorem pc_append (ps qs : List (Int × Int)) : pc (ps ++ qs) = pc ps ++ pc qs := by
  induction ps with
  | nil => rfl
  | cons p ps ih => simp [pc, ih]
/-- A place of a list. -/
def nthP (ps : List (Int × Int)) (k : Nat) : Int × Int := ps.getD k (0, 0)
theorem nthP_lt {ps : List (Int × Int)} {k : Nat} (h : k < ps.length) : nthP ps k = ps[k] := by
  unfold nthP; simp [h]
theorem nthP_mem {ps : List (Int × Int)} {k : Nat} (h : k < ps.length) : nthP ps k ∈ ps := by
  rw [nthP_lt h]; exact List.getElem_mem h
theorem take_nthP {ps : List (Int × Int)} {k : Nat} (h : k < ps.length) : ps.take (k + 1) = ps.take k ++ [nthP ps k] := by
  rw [nthP_lt h, List.take_succ_eq_append_getElem h]
theorem pc_at : ∀ {ps : List (Int × Int)} {k : Nat}, k < ps.length → (pc ps)[k * 2]? = some (.int .i64 (nthP ps k).1) ∧ (pc ps)[k * 2 + 1]? = some (.int .i64 (nthP ps k).2) := by
  intro ps
  induction ps with
  | nil => intro k h; simp at h
  | cons p ps ih =>
    intro k h
    cases k with
    | zero => exact ⟨rfl, rfl⟩
    | succ k =>
      have := ih (k := k) (by simpa using h)
      rw [show (k + 1) * 2 = k * 2 + 1 + 1 by omega]
      unfold nthP at this ⊢
      simpa [pc] using this
theorem pc_ok (ps : List (Int × Int)) : ∀ u ∈ pc ps, u.oneCell' = true := by
  induction ps with
  | nil => intro u hu; simp [pc] at hu
  | cons p ps ih =>
    intro u hu
    simp only [pc, List.mem_cons] at hu
    rcases hu with rfl | rfl | hu
    · rfl
    · rfl
    · exact ih u hu
theorem cells_news (w : World) (cs : List Value) (t : TypeId) : ∀ j u, cs[j]? = some u → (w.alloc (.cells cs.toArray t)).cell? ((⟨w.heap.size, 0, none⟩ : Addr).add j) = some u := by
  intro j u hj
  have hadd : (⟨w.heap.size, 0, none⟩ : Addr).add j = ⟨w.heap.size, j, none⟩ := by unfold Addr.add; split <;> simp_all
  rw [hadd, cell_of_row _ _ j cs.toArray t (0, 0) (heap_alloc_new w _)]
  simpa using hj
theorem cells_news_at (w : World) (cs : List Value) (t : TypeId) {b : Nat} (hb : b = w.heap.size) : ∀ j u, cs[j]? = some u → (w.alloc (.cells cs.toArray t)).cell? ((⟨b, 0, none⟩ : Addr).add j) = some u := by
  subst hb; exact cells_news w cs t
/-- The slice value v owns the places ps; its block has a number from B on. -/
def OwnP (w : World) (B : Nat) (v : Value) (ps : List (Int × Int)) : Prop := w.ownsRow B 103 2 v ps.length (pc ps)
theorem info_places : (Try.prog.info? 103).map (fun i => (i.zero, i.size, i.bytes)) = some (some (.agg #[.int .i64 0, .int .i64 0]), 2, 16) := by kernel_rfl
section
variable {w w' : World} {B B' : Nat} {v v1 v2 : Value} {ps qs : List (Int × Int)}
theorem OwnP.keep (h : OwnP w B v ps) (hb : Below w.heap.size w w') : OwnP w' B v ps := by
  refine ⟨h.1, ?_⟩
  rcases h.2 with h' | ⟨g, cap, cur, rfl, hB, hg, hr⟩
  · exact .inl h'
  · exact .inr ⟨g, cap, cur, rfl, hB, (hb.block g (lt_of_block hg)).trans hg, hr⟩
theorem OwnP.more (h : OwnP w B v ps) (hB : B' ≤ B) : OwnP w B' v ps := by
  refine ⟨h.1, ?_⟩
  rcases h.2 with h' | ⟨g, cap, cur, rfl, hB', hg, hr⟩
  · exact .inl h'
  · exact .inr ⟨g, cap, cur, rfl, by omega, hg, hr⟩
theorem OwnP.setLt (h : OwnP w B v ps) {p : Addr} (hp : p.block < B) (u : Value) : OwnP (w.setCell p u) B v ps := by
  refine ⟨h.1, ?_⟩
  rcases h.2 with h' | ⟨g, cap, cur, rfl, hB, hg, hr⟩
  · exact .inl h'
  · exact .inr ⟨g, cap, cur, rfl, hB, (Below.heap_setCell _ _ _ _ (by omega)).trans hg, hr⟩
theorem OwnP.setNew (h : OwnP w B v ps) {p : Addr} (hp : w.heap.size ≤ p.block) (u : Value) : OwnP (w.setCell p u) B v ps := by
  refine ⟨h.1, ?_⟩
  rcases h.2 with h' | ⟨g, cap, cur, rfl, hB, hg, hr⟩
  · exact .inl h'
  · exact .inr ⟨g, cap, cur, rfl, hB, (Below.heap_setCell _ _ _ _ (by have := lt_of_block hg; omega)).trans hg, hr⟩
theorem OwnP.setAt (h : OwnP w B v ps) {g : Nat} (hg : ∀ k, v.ownBlock = some k → k < g) {p : Addr} (hp : p.block = g) (u : Value) : OwnP (w.setCell p u) B v ps := by
  refine ⟨h.1, ?_⟩
  rcases h.2 with h' | ⟨g', cap, cur, rfl, hB, hg', hr⟩
  · exact .inl h'
  · exact .inr ⟨g', cap, cur, rfl, hB, (Below.heap_setCell _ _ _ _ (by have := hg g' rfl; omega)).trans hg', hr⟩
theorem OwnP.lt (h : OwnP w B v ps) : ∀ k, v.ownBlock = some k → k < w.heap.size := fun k hk => (World.ownsRow.lt h k hk).2
theorem OwnP.to (h : OwnP w B v ps) (e : ps = qs) : OwnP w B v qs := e ▸ h
theorem OwnP.nil : OwnP w B (.slice none 0 0) [] := World.ownsRow_nil _ _ _ _
theorem OwnP.alloc (h : OwnP w B v ps) (o : Obj) : OwnP (w.alloc o) B v ps := World.ownsRow.alloc h o
theorem OwnP.snoc {m : Nat} (h : w.ownsRow B 103 2 v (ps.length + m) (pc ps ++ pc qs)) (hm : m = qs.length) : OwnP w B v (ps ++ qs) := by
  subst hm
  unfold OwnP
  rw [List.length_append, pc_append]
  exact h
theorem OwnP.rows (h : OwnP w B v ps) : ∀ k, v.ownBlock = some k → B ≤ k := fun k hk => (World.ownsRow.lt h k hk).1
theorem OwnP.below_grown {a : World} {o : Obj} (h : OwnP w B v ps) (hb : Below B a w) (hB : B ≤ w.heap.size) (hg : (w.alloc o).grownBy w' v.ownBlock) : Below B a w' :=
  (hb.alloc hB o).grown hg (own_base hB) h.rows
theorem own_maxP {n m : Nat} (hn : n ≤ 100000) (hm : m ≤ 100000) : n + m ≤ maxLen := by unfold maxLen; omega
theorem own_bytesP {n m : Nat} (hn : n ≤ 100000) (hm : m ≤ 100000) : (n + m) * 16 ≤ 140737488355328 := by omega
theorem OwnP.empty (w : World) (hB : B ≤ w.heap.size) : OwnP (w.alloc (.cells #[] 103)) B (.slice (some ⟨w.heap.size, 0, none⟩) 0 0) [] := by
  have := World.ownsRow_made (e := 103) (size := 2) (base := B) w #[] 0 hB (by unfold maxLen; omega) rfl
  unfold OwnP
  simpa [pc] using this
/-- The cells of an owned slice of places. -/
theorem OwnP.cells (h : OwnP w B v ps) (h0 : 0 < ps.length) : ∃ g c, v = .slice (some ⟨g, 0, none⟩) ps.length c ∧ B ≤ g ∧ g < w.heap.size ∧
    ∀ k, k < ps.length → w.cell? ⟨g, k * 2, none⟩ = some (.int .i64 (nthP ps k).1) ∧ w.cell? ⟨g, k * 2 + 1, none⟩ = some (.int .i64 (nthP ps k).2) := by
  rcases h.2 with ⟨rfl, h0'⟩ | ⟨g, cap, cur, rfl, hB, hg, hr⟩
  · omega
  · have hf : w.ownsRow B 103 2 (.slice (some ⟨g, 0, none⟩) ps.length cap) ps.length (pc ps) := h
    refine ⟨g, cap, rfl, hB, lt_of_block hg, fun k hk => ?_⟩
    have := pc_at hk
    exact ⟨(hf.cellAt _ (by omega)).trans this.1, (hf.cellAt _ (by omega)).trans this.2⟩
/-- Two slices of places that lie apart. -/
def Two (w : World) (B : Nat) (v1 : Value) (ps : List (Int × Int)) (v2 : Value) (qs : List (Int × Int)) : Prop :=
  OwnP w B v1 ps ∧ OwnP w B v2 qs ∧ ∀ k, v1.ownBlock = some k → v2.ownBlock ≠ some k
theorem Two.symm (h : Two w B v1 ps v2 qs) : Two w B v2 qs v1 ps := ⟨h.2.1, h.1, fun k h1 h2 => h.2.2 k h2 h1⟩
theorem Two.first {v' : Value} {rs : List (Int × Int)} {o : Obj} (h : Two w B v1 ps v2 qs) (ho : OwnP w' B v' rs) (hg : (w.alloc o).grownBy w' v1.ownBlock) (hat : v'.ownBlock = v1.ownBlock ∨ v'.ownBlock = some (w.alloc o).heap.size) : Two w' B v' rs v2 qs := by
  refine ⟨ho, World.ownsRow.kept (h.2.1.alloc o) hg ?_, fun k h1 h2 => ?_⟩
  · cases hv : v2.ownBlock with
    | none => exact .inl rfl
    | some k => exact .inr fun e => h.2.2 k e.symm hv
  · rcases hat with e | e
    · exact h.2.2 k (e ▸ h1) h2
    · rw [e] at h1
      have := (World.ownsRow.lt h.2.1 k h2).2
      simp at h1
      omega
end
end Go.Proofs.Ytkipaefhnmfebaa
