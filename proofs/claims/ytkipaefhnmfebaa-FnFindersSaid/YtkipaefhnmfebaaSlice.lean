/-
  Slices of numbers that a call has made: they own their cells. Contracts of the laws' own words on them: equal, marked, held.
-/
import Derived.Test.YtkipaefhnmfebaaRows
import Derived.Test.YtkipaefhnmfebaaHold
namespace Go.Proofs.Ytkipaefhnmfebaa
open Go.RowKit

/-- The slice value v owns the numbers xs; its block has a number from B on. -/
def Own (w : World) (B : Nat) (v : Value) (xs : List Int) : Prop := w.ownsRow B 2 1 v xs.length (xs.map (Value.int .i64))
section
variable {w w' : World} {B B' : Nat} {v : Value} {xs ys : List Int}
theorem Own.shape (h : Own w B v xs) : ∃ A c, v = .slice A xs.length c ∧ RI w w.heap.size A xs.length xs := by
  rcases h.2 with ⟨rfl, h0⟩ | ⟨g, cap, cur, rfl, hB, hg, hn, hm, hs, ht⟩
  · rw [h0]
    have : xs = [] := List.length_eq_zero_iff.1 h0
    subst this
    exact ⟨none, 0, rfl, RI.nil⟩
  · refine ⟨_, cap, rfl, rfl, fun hn0 => ⟨g, 0, rfl, lt_of_block hg, fun k hk => ?_⟩⟩
    rw [cell_of_row w g (0 + k) cur _ (0, 0) hg, Nat.zero_add]
    have h1 : cur.toList[k]? = (xs.map (Value.int .i64))[k]? := by
      rw [← ht, List.getElem?_take, if_pos (by omega)]
    rw [← Array.getElem?_toList, h1]
    exact nth_map xs k hk
theorem Own.keep (h : Own w B v xs) (hb : Below w.heap.size w w') : Own w' B v xs := by
  refine ⟨h.1, ?_⟩
  rcases h.2 with h' | ⟨g, cap, cur, rfl, hB, hg, hr⟩
  · exact .inl h'
  · exact .inr ⟨g, cap, cur, rfl, hB, (hb.block g (lt_of_block hg)).trans hg, hr⟩
theorem Own.setLt (h : Own w B v xs) {p : Addr} (hp : p.block < B) (u : Value) : Own (w.setCell p u) B v xs := by
  refine ⟨h.1, ?_⟩
  rcases h.2 with h' | ⟨g, cap, cur, rfl, hB, hg, hr⟩
  · exact .inl h'
  · exact .inr ⟨g, cap, cur, rfl, hB, (Below.heap_setCell _ _ _ _ (by omega)).trans hg, hr⟩
theorem Own.more (h : Own w B v xs) (hB : B' ≤ B) : Own w B' v xs := by
  refine ⟨h.1, ?_⟩
  rcases h.2 with h' | ⟨g, cap, cur, rfl, hB', hg, hr⟩
  · exact .inl h'
  · exact .inr ⟨g, cap, cur, rfl, by omega, hg, hr⟩
theorem Own.drewN (h : Own w B v xs) (n : Nat) : Own (w.drewN n) B v xs := h
theorem Own.to (h : Own w B v xs) (e : xs = ys) : Own w B v ys := e ▸ h
theorem Own.nil : Own w B (.slice none 0 0) [] := World.ownsRow_nil _ _ _ _
/-- An owned row of at least one number lies at the head of a block, and may be written. -/
theorem Own.row (h : Own w B v xs) (h0 : 0 < xs.length) : ∃ g c, v = .slice (some ⟨g, 0, none⟩) xs.length c ∧ B ≤ g ∧ g < w.heap.size ∧
    (∀ k, k < xs.length → w.cell? ⟨g, k, none⟩ = some (.int .i64 (nth xs k))) ∧ (∀ k, w.frozen? ⟨g, k, none⟩ = false) := by
  rcases h.2 with ⟨rfl, h0'⟩ | ⟨g, cap, cur, rfl, hB, hg, hr⟩
  · omega
  · have hf : w.ownsRow B 2 1 (.slice (some ⟨g, 0, none⟩) xs.length cap) xs.length (xs.map (Value.int .i64)) := h
    refine ⟨g, cap, rfl, hB, lt_of_block hg, fun k hk => ?_, fun k => hf.frozenAt k⟩
    rw [hf.cellAt k (by omega)]
    exact nth_map xs k hk
theorem Own.set {g c k : Nat} {u : Int} (h : Own w B (.slice (some ⟨g, 0, none⟩) xs.length c) xs) :
    Own (w.setCell ⟨g, k, none⟩ (.int .i64 u)) B (.slice (some ⟨g, 0, none⟩) xs.length c) (xs.set k u) := by
  have h1 := (World.ownsRow.stored (show w.ownsRow B 2 1 (.slice (some ⟨g, 0, none⟩) xs.length c) xs.length (xs.map (Value.int .i64)) from h) k (.int .i64 u)).1
  unfold Own
  rw [List.length_set, List.map_set]
  exact h1
theorem Own.setn {g c k n : Nat} {u : Int} (hl : xs.length = n) (h : Own w B (.slice (some ⟨g, 0, none⟩) n c) xs) :
    Own (w.setCell ⟨g, k, none⟩ (.int .i64 u)) B (.slice (some ⟨g, 0, none⟩) n c) (xs.set k u) := by
  subst hl; exact h.set
end
section
variable {w w' : World} {B : Nat} {v : Value} {xs : List Int} {o : Obj} {x : Int}
theorem Own.alloc (h : Own w B v xs) (o : Obj) : (w.alloc o).ownsRow B 2 1 v xs.length (xs.map (Value.int .i64)) := World.ownsRow.alloc h o
theorem Own.snoc (h : w.ownsRow B 2 1 v (xs.length + 1) (xs.map (Value.int .i64) ++ [.int .i64 x])) : Own w B v (xs ++ [x]) := by
  unfold Own; simpa using h
theorem one_ok (x : Int) : ∀ u ∈ [Value.int .i64 x], u.oneCell' = true := by
  intro u hu; simp at hu; subst hu; rfl
theorem own_max (_ : Own w B v xs) (hn : xs.length + 1 ≤ 1000000000000) : xs.length + 1 ≤ maxLen := by unfold maxLen; omega
theorem own_bytes (_ : Own w B v xs) (hn : xs.length + 1 ≤ 1000000000000) : (xs.length + 1) * 8 ≤ 140737488355328 := by omega
theorem own_base (h : B ≤ w.heap.size) : B ≤ (w.alloc o).heap.size := by rw [World.size_alloc]; omega
theorem Own.below_grown {a : World} (h : Own w B v xs) (hb : Below B a w) (hB : B ≤ w.heap.size) (hg : (w.alloc o).grownBy w' v.ownBlock) : Below B a w' :=
  (hb.alloc hB o).grown hg (own_base hB) (fun k hk => (World.ownsRow.lt h k hk).1)
theorem Own.size_grown (hg : (w.alloc o).grownBy w' v.ownBlock) : w.heap.size < w'.heap.size := by have := hg.size; rw [World.size_alloc] at this; omega
end
theorem RI.grown {w w' : World} {B n : Nat} {A : Option Addr} {xs : List Int} {row : Option Nat} (h : RI w B A n xs) (hg : w.grownBy w' row) (hB : B ≤ w.heap.size) (hr : ∀ k, row = some k → B ≤ k) : RI w' B A n xs :=
  h.below ((Below.refl B w).grown hg hB hr)
theorem Own.rows {w : World} {B : Nat} {v : Value} {xs : List Int} (h : Own w B v xs) : ∀ k, v.ownBlock = some k → B ≤ k := fun k hk => (World.ownsRow.lt h k hk).1
/-- What is marked in place lies where it lay. -/
theorem Own.below_marked {a w w' : World} {B : Nat} {v : Value} {xs : List Int} (h : Own w B v xs) (hb : Below B a w) (hB : B ≤ w.heap.size) (hg : w.grownBy w' v.ownBlock) : Below B a w' :=
  hb.grown hg hB h.rows
/-- A slice of numbers from which another is copied: nil, or with an address. -/
def Src (w : World) (v : Value) (xs : List Int) : Prop :=
  (v = .slice none 0 0 ∧ xs = []) ∨ ∃ ad c, v = .slice (some ad) xs.length c ∧ ad.block < w.heap.size ∧ ∀ k, k < xs.length → w.cell? (ad.add k) = some (.int .i64 (nth xs k))
theorem Own.src {w : World} {B : Nat} {v : Value} {xs : List Int} (h : Own w B v xs) : Src w v xs := by
  rcases h.2 with ⟨rfl, h0⟩ | ⟨g, cap, cur, rfl, hB, hg, hr⟩
  · exact .inl ⟨rfl, List.length_eq_zero_iff.1 h0⟩
  · refine .inr ⟨_, cap, rfl, lt_of_block hg, fun k hk => ?_⟩
    exact World.ownsRow.cells h rfl k _ (nth_map xs k hk)
theorem src_news {w : World} {ad : Addr} {xs : List Int} (hlt : ad.block < w.heap.size) (h : ∀ k, k < xs.length → w.cell? (ad.add k) = some (.int .i64 (nth xs k))) (o : Obj) :
    ∀ j u, (xs.map (Value.int .i64))[j]? = some u → (w.alloc o).cell? (ad.add j) = some u := by
  intro j u hj
  have hjl : j < xs.length := by
    rcases Nat.lt_or_ge j xs.length with h' | h'
    · exact h'
    · rw [List.getElem?_eq_none (by simpa using h')] at hj; cases hj
  rw [nth_map xs j hjl] at hj
  cases hj
  rw [World.cell?_alloc_lt w o _ (by unfold Addr.add; split <;> simpa using hlt)]
  exact h j hjl
theorem ints_ok (xs : List Int) : ∀ u ∈ xs.map (Value.int .i64), u.oneCell' = true := ints_oneCell .i64 xs
theorem Own.of_copy {w : World} {B : Nat} {v : Value} {xs : List Int} (h : w.ownsRow B 2 1 v (0 + xs.length) ([] ++ xs.map (Value.int .i64))) : Own w B v xs := by
  unfold Own; simpa using h
theorem info_i64s : (Try.prog.info? 2).map (fun i => (i.zero, i.size, i.bytes)) = some (some (.int .i64 0), 1, 8) := by kernel_rfl
theorem drewN_two (w : World) (m n : Nat) : (w.drewN m).drewN n = w.drewN (m + n) := by
  simp [World.drewN, Nat.add_assoc]
theorem beq_ints_ne {xs ys : List Int} {k : Nat} (hl : xs.length = ys.length) (h : nth xs k ≠ nth ys k) : (xs == ys) = false := by
  rw [beq_eq_false_iff_ne]; rintro rfl; exact h rfl
theorem beq_ints_len {xs ys : List Int} (h : xs.length ≠ ys.length) : (xs == ys) = false := by
  rw [beq_eq_false_iff_ne]; rintro rfl; exact h rfl
/-- The marks from m on. -/
def marks (m : Int) : Nat → List Int
  | 0 => []
  | n + 1 => m :: marks (m + 1) n
theorem marks_len (m : Int) (n : Nat) : (marks m n).length = n := by
  induction n generalizing m with
  | zero => rfl
  | succ n ih => simp [marks, ih]
theorem nth_marks {m : Int} {n k : Nat} (h : k < n) : nth (marks m n) k = m + k := by
  induction n generalizing m k with
  | zero => omega
  | succ n ih =>
    cases k with
    | zero => simp [marks, nth]
    | succ k =>
      have := ih (m := m + 1) (k := k) (by omega)
      unfold nth at this ⊢
      simp only [marks, List.getD_cons_succ]
      rw [this]; omega
set_option maxHeartbeats 1000000 in
theorem eqInt64S_any (A1 A2 : Option Addr) (n1 n2 c1 c2 : Nat) (xs ys : List Int) (w : World) (B1 B2 : Nat) (hr1 : RI w B1 A1 n1 xs) (hr2 : RI w B2 A2 n2 ys) (hn : n1 ≤ 1000000000000) (hn2 : n2 ≤ 1000000000000) :
    Calls Try.prog 35 #[.slice A1 n1 c1, .slice A2 n2 c2] w fun e w' => e = .returned (.bool (xs == ys)) ∧ ∃ m, w' = w.drewN m := by
  have hl1 := Lib.hid hr1.len
  have hl2 := Lib.hid hr2.len
  by_cases hl : n1 = n2
  · subst hl
    have HE : Hid (xs.length = ys.length) := Lib.hid (hl1.out.trans hl2.out.symm)
    have H1 := Lib.hid hr1
    have H2 := Lib.hid hr2
    clear hr1 hr2
    go_enter Try.func35, Try.ntmps35
    go_wp2_with fail
    go_loopw [5] (fun i wr => ∃ k : Nat, k ≤ n1 ∧ i = .int .i64 k ∧ Hid (xs.take k = ys.take k) ∧ Hid (∃ m, wr = w.drewN m)) (fun i _ => n1 - (intOf i).toNat)
    case atStart => exact ⟨0, Nat.zero_le _, rfl, rfl, ⟨0, rfl⟩⟩
    case round =>
      obtain ⟨k, hk, rfl, heq, hw⟩ := hrel
      by_cases hlt : k < n1
      · obtain ⟨b, o, rfl, hb, hc⟩ := H1.out.cells (by omega)
        obtain ⟨b', o', rfl, hb', hc'⟩ := H2.out.cells (by omega)
        have hck : wr.cell? ⟨b, o + k, none⟩ = some (.int .i64 (nth xs k)) := by
          obtain ⟨m, rfl⟩ := hw.out
          exact hc k hlt
        have hck' : wr.cell? ⟨b', o' + k, none⟩ = some (.int .i64 (nth ys k)) := by
          obtain ⟨m, rfl⟩ := hw.out
          exact hc' k hlt
        clear hc hc' hb hb'
        by_cases he : nth xs k = nth ys k
        · have hne : (nth xs k != nth ys k) = false := by simpa using he
          have HN := Lib.hid he
          clear he
          go_wp2_with fail
          go_quiet (fail)
          go_wp2_with fail
          go_roundw
          case rel => exact ⟨k + 1, by omega, by go_num, by
            rw [take_nth (by have := hl1.out; omega), take_nth (by have := hl2.out; omega), heq.out, HN.out]; exact rfl, by obtain ⟨m, hm⟩ := hw.out; exact ⟨m + nq, by rw [hm]; exact drewN_two w m nq⟩⟩
          case measure => simp [intOf]; omega
        · have hne : (nth xs k != nth ys k) = true := by simpa using he
          have HN := Lib.hid he
          clear he
          go_wp2_with fail
          go_quiet (fail)
          go_wp2_with fail
          go_ret
          exact ⟨ret_bool (by rw [beq_ints_ne HE.out HN.out]), by obtain ⟨m, hm⟩ := hw.out; exact ⟨m + nq, by rw [hm]; exact drewN_two w m nq⟩⟩
      · have hkn : k = n1 := by omega
        have hfin : xs = ys := by
          have := heq.out
          rwa [hkn, List.take_of_length_le (by have := hl1.out; omega), List.take_of_length_le (by have := hl2.out; omega)] at this
        have HF := Lib.hid hfin
        clear hfin hkn
        go_wp2_with fail
        go_ret
        exact ⟨ret_bool (by rw [HF.out]; simp), hw.out⟩
  · have he : (xs == ys) = false := beq_ints_len (by rw [hl1.out, hl2.out]; exact hl)
    rw [he]
    clear he hr1 hr2
    have hl' : ((n1 : Int) == (n2 : Int)) = false := by simp; omega
    have hl'' : ((n1 : Int) != (n2 : Int)) = true := by simp; omega
    go_enter Try.func35, Try.ntmps35
    go_wp2_with fail
    go_ret
    exact ⟨rfl, 0, rfl⟩
end Go.Proofs.Ytkipaefhnmfebaa
