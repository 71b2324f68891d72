/-
  Slices of slices of numbers that a call has made: the words of a stream. What a split leaves.
-/
import Derived.Test.YtbgcbjfimjfbpaaOrd
import Derived.Test.YtbgcbjfimjfbpaaSlice
namespace Go.Proofs.Ytbgcbjfimjfbpaa
open Go.RowKit

/-- The slice of a whole block. -/
def slW (g n : Nat) : Value := .slice (some ⟨g, 0, none⟩) n n
def nilW : Value := .slice none 0 0
def wVs (gs : Nat → Nat) (wv : Nat → List Int) (K n : Nat) : List Value := (List.range K).map (fun b => slW (gs b) (wv b).length) ++ List.replicate (n - K) nilW
def updW (wv : Nat → List Int) (b : Nat) (xs : List Int) : Nat → List Int := fun i => if i = b then xs else wv i
theorem updW_same (wv : Nat → List Int) (b : Nat) (xs : List Int) : updW wv b xs b = xs := if_pos rfl
theorem updW_other {wv : Nat → List Int} {b i : Nat} {xs : List Int} (h : i ≠ b) : updW wv b xs i = wv i := if_neg h
theorem wVs_len {gs : Nat → Nat} {wv : Nat → List Int} {K n : Nat} (h : K ≤ n) : (wVs gs wv K n).length = n := by
  unfold wVs; simp; omega
theorem wVs_get {gs : Nat → Nat} {wv : Nat → List Int} {K n b : Nat} (hb : b < K) : (wVs gs wv K n)[b]? = some (slW (gs b) (wv b).length) := by
  unfold wVs
  rw [List.getElem?_append_left (by simpa using hb)]
  simp [hb]
theorem wVs_congr {gs gs' : Nat → Nat} {wv wv' : Nat → List Int} {K n : Nat} (h1 : ∀ b, b < K → gs b = gs' b) (h2 : ∀ b, b < K → (wv b).length = (wv' b).length) : wVs gs wv K n = wVs gs' wv' K n := by
  unfold wVs
  congr 1
  apply List.map_congr_left
  intro b hb
  have hb := List.mem_range.1 hb
  rw [h1 b hb, h2 b hb]
theorem wVs_set {gs : Nat → Nat} {wv : Nat → List Int} {K n : Nat} (hK : K < n) : (wVs gs wv K n).set K (slW (gs K) (wv K).length) = wVs gs wv (K + 1) n := by
  apply List.ext_getElem?
  intro i
  unfold wVs
  rw [List.getElem?_set]
  by_cases h1 : K = i
  · subst h1
    rw [if_pos rfl, if_pos (by simp; omega), List.getElem?_append_left (by simp)]
    simp
  · rw [if_neg h1]
    by_cases h2 : i < K
    · rw [List.getElem?_append_left (by simpa using h2), List.getElem?_append_left (by simp; omega)]
      simp [h2, show i < K + 1 by omega]
    · rw [List.getElem?_append_right (by simp; omega), List.getElem?_append_right (by simp; omega)]
      simp only [List.length_map, List.length_range, List.getElem?_replicate]
      by_cases h3 : i < n
      · rw [if_pos (by omega), if_pos (by omega)]
      · rw [if_neg (by omega), if_neg (by omega)]
theorem wVs_snoc {gs : Nat → Nat} {wv : Nat → List Int} {K : Nat} : wVs gs wv K K ++ [slW (gs K) (wv K).length] = wVs gs wv (K + 1) (K + 1) := by
  unfold wVs; simp [List.range_succ]

/-- The slice at the head of block g holds n words, of which K are laid: in blocks from B on, all apart. -/
structure Wds (w : World) (B g n c K : Nat) (wv : Nat → List Int) : Prop where
  le : K ≤ n
  ex : ∃ gs : Nat → Nat, w.ownsRow B 24 1 (.slice (some ⟨g, 0, none⟩) n c) n (wVs gs wv K n) ∧ (∀ b, b < K → B ≤ gs b ∧ RowAt w (gs b) 2 (wv b)) ∧ (∀ b b', b < b' → b' < K → gs b ≠ gs b')

section
variable {w w' : World} {B B' g n c K : Nat} {wv : Nat → List Int}
theorem row_keep {e : TypeId} {sz : Nat} {v : Value} {xs : List Value} (h : w.ownsRow B e sz v n xs) (hb : Below w.heap.size w w') : w'.ownsRow B e sz v n xs := by
  refine ⟨h.1, ?_⟩
  rcases h.2 with h' | ⟨g, cap, cur, rfl, hB, hg, hr⟩
  · exact .inl h'
  · exact .inr ⟨g, cap, cur, rfl, hB, (hb.block g (lt_of_block hg)).trans hg, hr⟩
theorem row_more {e : TypeId} {sz : Nat} {v : Value} {xs : List Value} (h : w.ownsRow B e sz v n xs) (hB : B' ≤ B) : w.ownsRow B' e sz v n xs := by
  refine ⟨h.1, ?_⟩
  rcases h.2 with h' | ⟨g, cap, cur, rfl, hB', hg, hr⟩
  · exact .inl h'
  · exact .inr ⟨g, cap, cur, rfl, by omega, hg, hr⟩
theorem Wds.keep (h : Wds w B g n c K wv) (hb : Below w.heap.size w w') : Wds w' B g n c K wv := by
  obtain ⟨gs, h1, h2, h3⟩ := h.ex
  exact ⟨h.le, gs, row_keep h1 hb, fun b hb' => ⟨(h2 b hb').1, (h2 b hb').2.below hb (h2 b hb').2.lt⟩, h3⟩
/-- Cells that lie as they lay. -/
def SameC (w w' : World) : Prop := ∀ (b t : Nat) (cs : Array Value), w.heap[b]? = some (.cells cs t (0, 0)) → w'.heap[b]? = some (.cells cs t (0, 0))
theorem Wds.same (h : Wds w B g n c K wv) (hs : SameC w w') : Wds w' B g n c K wv := by
  obtain ⟨gs, h1, h2, h3⟩ := h.ex
  refine ⟨h.le, gs, ⟨h1.1, ?_⟩, fun b hb' => ⟨(h2 b hb').1, hs _ _ _ (h2 b hb').2⟩, h3⟩
  rcases h1.2 with h' | ⟨g, cap, cur, e, hB, hg, hr⟩
  · exact .inl h'
  · exact .inr ⟨g, cap, cur, e, hB, hs _ _ _ hg, hr⟩
theorem Wds.more (h : Wds w B g n c K wv) (hB : B' ≤ B) : Wds w B' g n c K wv := by
  obtain ⟨gs, h1, h2, h3⟩ := h.ex
  exact ⟨h.le, gs, row_more h1 hB, fun b hb' => ⟨Nat.le_trans hB (h2 b hb').1, (h2 b hb').2⟩, h3⟩
theorem Wds.to {wv' : Nat → List Int} (h : Wds w B g n c K wv) (e : ∀ b, b < K → wv b = wv' b) : Wds w B g n c K wv' := by
  obtain ⟨gs, h1, h2, h3⟩ := h.ex
  exact ⟨h.le, gs, by rw [← wVs_congr (gs := gs) (gs' := gs) (wv := wv) (wv' := wv') (fun _ _ => rfl) (fun b hb => by rw [e b hb])]; exact h1, fun b hb => ⟨(h2 b hb).1, by rw [← e b hb]; exact (h2 b hb).2⟩, h3⟩
/-- The outer block. -/
theorem Wds.outer (h : Wds w B g n c K wv) : B ≤ g ∧ g < w.heap.size ∧ (∀ k, w.frozen? ⟨g, k, none⟩ = false) ∧ ∃ cur, w.heap[g]? = some (.cells cur 24 (0, 0)) := by
  obtain ⟨gs, h1, h2, h3⟩ := h.ex
  have hl := World.ownsRow.lt h1 g rfl
  refine ⟨hl.1, hl.2, fun k => h1.frozenAt k, ?_⟩
  rcases h1.2 with ⟨h', _⟩ | ⟨g', cap', cur, h', _, hg, _⟩
  · simp at h'
  · simp only [Value.slice.injEq, Option.some.injEq, Addr.mk.injEq, and_true, true_and] at h'
    obtain ⟨rfl, rfl⟩ := h'
    exact ⟨cur, hg⟩
theorem Wds.hole (h : Wds w B g n c K wv) (hK : K < n) : w.cell? ⟨g, K, none⟩ = some nilW := by
  obtain ⟨gs, h1, h2, h3⟩ := h.ex
  rw [h1.cellAt K (by omega)]
  unfold wVs
  rw [List.getElem?_append_right (by simp)]
  simp only [List.length_map, List.length_range, Nat.sub_self, List.getElem?_replicate]
  rw [if_pos (by omega)]
theorem row_other {e : TypeId} {sz k : Nat} {v u : Value} {xs : List Value} {b t : Nat} {cs : Array Value} (h : w.ownsRow B e sz v n xs) (hb : w.heap[b]? = some (.cells cs t (0, 0))) (ht : t ≠ e) : (w.setCell ⟨b, k, none⟩ u).ownsRow B e sz v n xs := by
  refine ⟨h.1, ?_⟩
  rcases h.2 with h' | ⟨g, cap, cur, rfl, hB, hg, hr⟩
  · exact .inl h'
  · refine .inr ⟨g, cap, cur, rfl, hB, (Below.heap_setCell _ _ _ _ ?_).trans hg, hr⟩
    rintro rfl
    rw [hg] at hb
    simp at hb
    exact ht hb.2.symm
theorem words_ne : 2 ≠ 24 := by decide
/-- One word: where it lies, what it holds, what a store into it leaves. -/
theorem Wds.look (h : Wds w B g n c K wv) {b : Nat} (hb : b < K) : ∃ gb, B ≤ gb ∧ gb < w.heap.size ∧ w.cell? ⟨g, b, none⟩ = some (.slice (some ⟨gb, 0, none⟩) (wv b).length (wv b).length) ∧
    (∀ e, e < (wv b).length → w.cell? ⟨gb, e, none⟩ = some (.int .i64 (nth (wv b) e))) ∧ (∀ e, w.frozen? ⟨gb, e, none⟩ = false) ∧
    (∀ e u, Wds (w.setCell ⟨gb, e, none⟩ (.int .i64 u)) B g n c K (updW wv b ((wv b).set e u))) ∧ RowAt w gb 2 (wv b) := by
  have hle := h.le
  obtain ⟨gs, h1, h2, h3⟩ := h.ex
  obtain ⟨hB, hr⟩ := h2 b hb
  refine ⟨gs b, hB, hr.lt, ?_, fun e he => hr.cell he, fun e => hr.free e, fun e u => ⟨h.le, gs, ?_, fun i hi => ⟨(h2 i hi).1, ?_⟩, h3⟩, hr⟩
  · rw [h1.cellAt b (by omega), wVs_get hb]; rfl
  · rw [← wVs_congr (gs := gs) (gs' := gs) (wv := wv) (fun _ _ => rfl) (fun i hi => by
      by_cases e : i = b
      · subst e; rw [updW_same, List.length_set]
      · rw [updW_other e])]
    exact row_other h1 hr words_ne
  · by_cases e : i = b
    · subst e; rw [updW_same]; exact hr.set u
    · rw [updW_other e]
      refine RowAt.of (Below.heap_setCell _ _ _ _ ?_) (h2 i hi).2
      rcases Nat.lt_or_gt_of_ne e with hl | hl
      · exact h3 i b hl hb
      · exact (h3 b i hl hi).symm
/-- One word more is laid in its place. -/
theorem Wds.add (h : Wds w B g n c K wv) (hb : Below w.heap.size w w') {g' : Nat} {xs : List Int} (hg : w.heap.size ≤ g') (hB : B ≤ w.heap.size) (hr : RowAt w' g' 2 xs) (hK : K < n) :
    Wds (w'.setCell ⟨g, K, none⟩ (slW g' xs.length)) B g n c (K + 1) (updW wv K xs) := by
  obtain ⟨gs, h1, h2, h3⟩ := h.ex
  have h1' := row_keep h1 hb
  have ho := h.outer
  obtain ⟨cur, hcur⟩ := ho.2.2.2
  refine ⟨hK, fun i => if i = K then g' else gs i, ?_, fun i hi => ?_, fun i j hij hj => ?_⟩
  · have h4 := (World.ownsRow.stored h1' K (slW g' xs.length)).1
    have e : (wVs gs wv K n).set K (slW g' xs.length) = wVs (fun i => if i = K then g' else gs i) (updW wv K xs) (K + 1) n := by
      rw [← wVs_set hK, updW_same]
      simp only [if_true]
      rw [wVs_congr (gs' := fun i => if i = K then g' else gs i) (wv' := updW wv K xs) (fun i hi => by rw [if_neg (by omega)]) (fun i hi => by rw [updW_other (by omega)])]
    rw [← e]; exact h4
  · by_cases e : i = K
    · subst e
      simp only [if_true]
      rw [updW_same]
      refine ⟨by omega, RowAt.of (Below.heap_setCell _ _ _ _ ?_) hr⟩
      have := ho.2.1
      show g' ≠ g
      omega
    · simp only [if_neg e]
      rw [updW_other e]
      obtain ⟨h5, h6⟩ := h2 i (by omega)
      refine ⟨h5, RowAt.of (Below.heap_setCell _ _ _ _ ?_) (h6.below hb h6.lt)⟩
      intro e2
      have h7 := h6
      unfold RowAt at h7
      simp only at e2
      rw [e2, hcur] at h7
      simp at h7
  · by_cases e : j = K
    · subst e
      simp only [if_true, if_neg (show i ≠ j by omega)]
      have := (h2 i (by omega)).2.lt
      omega
    · simp only [if_neg e, if_neg (show i ≠ K by omega)]
      exact h3 i j hij (by omega)
end

/-- The same, with the words' blocks told. -/
structure WdG (w : World) (B g n c K : Nat) (gs : Nat → Nat) (wv : Nat → List Int) : Prop where
  le : K ≤ n
  row : w.ownsRow B 24 1 (.slice (some ⟨g, 0, none⟩) n c) n (wVs gs wv K n)
  rows : ∀ b, b < K → B ≤ gs b ∧ RowAt w (gs b) 2 (wv b)
  ap : ∀ b b', b < b' → b' < K → gs b ≠ gs b'
section
variable {w w' : World} {B g n c K : Nat} {gs : Nat → Nat} {wv : Nat → List Int}
theorem Wds.toG (h : Wds w B g n c K wv) : ∃ gs, WdG w B g n c K gs wv := let ⟨gs, h1, h2, h3⟩ := h.ex; ⟨gs, h.le, h1, h2, h3⟩
theorem WdG.of (h : WdG w B g n c K gs wv) : Wds w B g n c K wv := ⟨h.le, gs, h.row, h.rows, h.ap⟩
theorem WdG.keep (h : WdG w B g n c K gs wv) (hb : Below w.heap.size w w') : WdG w' B g n c K gs wv :=
  ⟨h.le, row_keep h.row hb, fun b hb' => ⟨(h.rows b hb').1, (h.rows b hb').2.below hb (h.rows b hb').2.lt⟩, h.ap⟩
theorem WdG.look (h : WdG w B g n c K gs wv) {b : Nat} (hb : b < K) : w.cell? ⟨g, b, none⟩ = some (.slice (some ⟨gs b, 0, none⟩) (wv b).length (wv b).length) ∧
    (∀ e, e < (wv b).length → w.cell? ⟨gs b, e, none⟩ = some (.int .i64 (nth (wv b) e))) ∧ (∀ e, w.frozen? ⟨gs b, e, none⟩ = false) ∧
    (∀ e u, WdG (w.setCell ⟨gs b, e, none⟩ (.int .i64 u)) B g n c K gs (updW wv b ((wv b).set e u))) := by
  have hle := h.le
  obtain ⟨hB, hr⟩ := h.rows b hb
  refine ⟨?_, fun e he => hr.cell he, fun e => hr.free e, fun e u => ⟨h.le, ?_, fun i hi => ⟨(h.rows i hi).1, ?_⟩, h.ap⟩⟩
  · rw [h.row.cellAt b (by omega), wVs_get hb]; rfl
  · rw [← wVs_congr (gs := gs) (gs' := gs) (wv := wv) (fun _ _ => rfl) (fun i hi => by
      by_cases e : i = b
      · subst e; rw [updW_same, List.length_set]
      · rw [updW_other e])]
    exact row_other h.row hr words_ne
  · by_cases e : i = b
    · subst e; rw [updW_same]; exact hr.set u
    · rw [updW_other e]
      refine RowAt.of (Below.heap_setCell _ _ _ _ ?_) (h.rows i hi).2
      rcases Nat.lt_or_gt_of_ne e with hl | hl
      · exact h.ap i b hl hb
      · exact (h.ap b i hl hi).symm
theorem WdG.to {wv' : Nat → List Int} (h : WdG w B g n c K gs wv) (e : wv = wv') : WdG w B g n c K gs wv' := e ▸ h
end

/-! ### What a split leaves -/
/-- The words when the elements of pre have come, with the numbers xs. -/
def wdF (ln : Nat → Nat) (xs : List Int) (pre : List (Nat × Nat)) : Nat × (Nat → List Int) :=
  pre.foldl (fun s p => (s.1 + 1, updW s.2 p.1 ((s.2 p.1).set p.2 (nth xs s.1)))) (0, fun b => List.replicate (ln b) 0)
theorem wdF_snoc (ln : Nat → Nat) (xs : List Int) (pre : List (Nat × Nat)) (p : Nat × Nat) :
    wdF ln xs (pre ++ [p]) = ((wdF ln xs pre).1 + 1, updW (wdF ln xs pre).2 p.1 (((wdF ln xs pre).2 p.1).set p.2 (nth xs (wdF ln xs pre).1))) := by
  unfold wdF; rw [List.foldl_append]; rfl
theorem snoc_ind {α : Type} {P : List α → Prop} (h0 : P []) (h1 : ∀ l x, P l → P (l ++ [x])) : ∀ l, P l := fun l => by
  have : ∀ l : List α, P l.reverse := fun l => by
    induction l with
    | nil => exact h0
    | cons x l ih => rw [List.reverse_cons]; exact h1 _ _ ih
  have := this l.reverse
  rwa [List.reverse_reverse] at this
theorem wdF_fst (ln : Nat → Nat) (xs : List Int) : ∀ pre, (wdF ln xs pre).1 = pre.length :=
  snoc_ind rfl fun l x ih => by rw [wdF_snoc, ih]; simp
theorem wdF_len (ln : Nat → Nat) (xs : List Int) : ∀ pre b, ((wdF ln xs pre).2 b).length = ln b :=
  snoc_ind (fun b => by simp [wdF]) fun l x ih b => by
    rw [wdF_snoc]
    by_cases e : b = x.1
    · subst e; simp only [updW_same, List.length_set]; exact ih _
    · simp only [updW_other e]; exact ih b
/-- The words of a stream. -/
def wdL (D C H : Nat) (xs : List Int) : Nat → List Int := (wdF (fun b => shN D C b + H) xs (ordL D C H)).2
theorem wdL_len (D C H : Nat) (xs : List Int) (b : Nat) : (wdL D C H xs b).length = shN D C b + H := wdF_len _ _ _ b
end Go.Proofs.Ytbgcbjfimjfbpaa
