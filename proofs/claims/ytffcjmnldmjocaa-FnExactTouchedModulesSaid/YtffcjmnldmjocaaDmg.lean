/-
  Slices of damages, six numbers each, told as one list of numbers. The laws' own words on them: copied, equal, marked. Printed by gen/dmg.py.
-/
import Derived.Test.YtffcjmnldmjocaaC27T
import Derived.Test.YtffcjmnldmjocaaSlice
import Derived.Test.YtffcjmnldmjocaaToS
import Derived.Test.YtffcjmnldmjocaaRegion
import Derived.Test.YtffcjmnldmjocaaBlk
namespace Go.Proofs.Ytffcjmnldmjocaa
set_option linter.unusedSimpArgs false
open Go.ChangeShapes Go.WideShapes Go.ChangeAt Go.RowKit

/-- The slice value v owns n damages, whose numbers are fs in turn; its block has a number from B on. -/
def OwnG (w : World) (B : Nat) (v : Value) (n : Nat) (fs : List Int) : Prop := w.ownsRow B 25 6 v n (fs.map (Value.int .i64))
theorem info_damages : (Try.prog.info? 25).map (fun i => (i.zero, i.size, i.bytes)) = some (some (.agg #[.int .i64 0, .int .i64 0, .int .i64 0, .int .i64 0, .int .i64 0, .int .i64 0]), 6, 48) := by kernel_rfl
section
variable {w w' : World} {B B' n : Nat} {v : Value} {fs gs : List Int}
theorem OwnG.len (h : OwnG w B v n fs) : fs.length = n * 6 := by have := h.1; simpa using this
theorem OwnG.keep (h : OwnG w B v n fs) (hb : Below w.heap.size w w') : OwnG w' B v n fs := by
  refine ⟨h.1, ?_⟩
  rcases h.2 with h' | ⟨g, cap, cur, rfl, hB, hg, hr⟩
  · exact .inl h'
  · exact .inr ⟨g, cap, cur, rfl, hB, (hb.block g (lt_of_block hg)).trans hg, hr⟩
theorem OwnG.more (h : OwnG w B v n fs) (hB : B' ≤ B) : OwnG w B' v n fs := by
  refine ⟨h.1, ?_⟩
  rcases h.2 with h' | ⟨g, cap, cur, rfl, hB', hg, hr⟩
  · exact .inl h'
  · exact .inr ⟨g, cap, cur, rfl, by omega, hg, hr⟩
theorem OwnG.to (h : OwnG w B v n fs) (e : fs = gs) : OwnG w B v n gs := e ▸ h
theorem OwnG.rows (h : OwnG w B v n fs) : ∀ k, v.ownBlock = some k → B ≤ k := fun k hk => (World.ownsRow.lt h k hk).1
theorem OwnG.shape (h : OwnG w B v n fs) : ∃ A c, v = .slice A n c := by
  rcases h.2 with ⟨rfl, h0⟩ | ⟨g, cap, cur, rfl, hB, hg, hr⟩
  · exact ⟨none, 0, by rw [h0]⟩
  · exact ⟨_, cap, rfl⟩
theorem OwnG.row (h : OwnG w B v n fs) (h0 : 0 < n) : ∃ g c, v = .slice (some ⟨g, 0, none⟩) n c ∧ B ≤ g ∧ g < w.heap.size ∧
    (∀ k, k < n * 6 → w.cell? ⟨g, k, none⟩ = some (.int .i64 (nth fs k))) ∧ (∀ k, w.frozen? ⟨g, k, none⟩ = false) := by
  have hlen := h.len
  rcases h.2 with ⟨rfl, h0'⟩ | ⟨g, cap, cur, rfl, hB, hg, hr⟩
  · omega
  · have hf : w.ownsRow B 25 6 (.slice (some ⟨g, 0, none⟩) n cap) n (fs.map (Value.int .i64)) := h
    refine ⟨g, cap, rfl, hB, lt_of_block hg, fun k hk => ?_, fun k => hf.frozenAt k⟩
    rw [hf.cellAt k hk]
    exact nth_map fs k (by omega)
/-- An owned row of damages reads as its numbers. -/
theorem OwnG.ri {A : Option Addr} {c : Nat} (h : OwnG w B (.slice A n c) n fs) : RI w w.heap.size A (n * 6) fs := by
  refine ⟨h.len, fun hn => ?_⟩
  obtain ⟨g, c', e, -, hg, hc, -⟩ := h.row (by omega)
  simp only [Value.slice.injEq] at e
  obtain ⟨rfl, -, -⟩ := e
  exact ⟨g, 0, rfl, hg, fun k hk => by rw [Nat.zero_add]; exact hc k hk⟩
theorem OwnG.set {g c k : Nat} {u : Int} (h : OwnG w B (.slice (some ⟨g, 0, none⟩) n c) n fs) : OwnG (w.setCell ⟨g, k, none⟩ (.int .i64 u)) B (.slice (some ⟨g, 0, none⟩) n c) n (fs.set k u) := by
  have h1 := (World.ownsRow.stored (show w.ownsRow B 25 6 (.slice (some ⟨g, 0, none⟩) n c) n (fs.map (Value.int .i64)) from h) k (.int .i64 u)).1
  unfold OwnG
  rw [List.map_set]
  exact h1
theorem OwnG.made (h : w.ownsRow B 25 6 v n (madeCells (Value.agg #[.int .i64 0, .int .i64 0, .int .i64 0, .int .i64 0, .int .i64 0, .int .i64 0]).cells (n * 6)).toList) : OwnG w B v n (List.replicate (n * 6) 0) := by
  unfold OwnG
  have e : (madeCells (Value.agg #[.int .i64 0, .int .i64 0, .int .i64 0, .int .i64 0, .int .i64 0, .int .i64 0]).cells (n * 6)).toList = (List.replicate (n * 6) (0 : Int)).map (Value.int .i64) := by
    apply List.ext_getElem?
    intro i
    rw [List.getElem?_map, Array.getElem?_toList]
    rcases Nat.lt_or_ge i (n * 6) with hi | hi
    · have h5 : i % 6 < 6 := Nat.mod_lt _ (by omega)
      have h6 : i % 6 = 0 ∨ i % 6 = 1 ∨ i % 6 = 2 ∨ i % 6 = 3 ∨ i % 6 = 4 ∨ i % 6 = 5 := by omega
      simp [madeCells, Value.cells, hi, List.getElem?_replicate]
      rcases h6 with h | h | h | h | h | h <;> rw [h] <;> rfl
    · simp [madeCells, Value.cells, List.getElem?_replicate, Nat.not_lt.2 hi]
  rw [← e]; exact h
end
theorem set6 {L R : List Int} {a0 a1 a2 a3 a4 a5 x0 x1 x2 x3 x4 x5 : Int} {k : Nat} (h : L.length = k) : (((((((L ++ a0 :: a1 :: a2 :: a3 :: a4 :: a5 :: R).set k x0).set (k + 1) x1).set (k + 2) x2).set (k + 3) x3).set (k + 4) x4).set (k + 5) x5) = L ++ [x0, x1, x2, x3, x4, x5] ++ R := by
  subst h
  simp [List.set_append]
theorem rep6 (m : Nat) : List.replicate ((m + 1) * 6) (0 : Int) = 0 :: 0 :: 0 :: 0 :: 0 :: 0 :: List.replicate (m * 6) 0 := by
  rw [show (m + 1) * 6 = m * 6 + 1 + 1 + 1 + 1 + 1 + 1 by omega]; rfl
theorem take6 {fs : List Int} {k n : Nat} (hl : fs.length = n * 6) (hk : k < n) : fs.take ((k + 1) * 6) = fs.take (k * 6) ++ [nth fs (k * 6), nth fs (k * 6 + 1), nth fs (k * 6 + 2), nth fs (k * 6 + 3), nth fs (k * 6 + 4), nth fs (k * 6 + 5)] := by
  rw [show (k + 1) * 6 = k * 6 + 1 + 1 + 1 + 1 + 1 + 1 by omega]
  rw [take_nth (k := k * 6 + 1 + 1 + 1 + 1 + 1) (by omega), take_nth (k := k * 6 + 1 + 1 + 1 + 1) (by omega), take_nth (k := k * 6 + 1 + 1 + 1) (by omega), take_nth (k := k * 6 + 1 + 1) (by omega), take_nth (k := k * 6 + 1) (by omega), take_nth (k := k * 6) (by omega)]
  simp
theorem ri6 {w : World} {n k b o : Nat} {fs : List Int} (hc : ∀ j, j < n * 6 → w.cell? ⟨b, o + j, none⟩ = some (.int .i64 (nth fs j))) (hk : k < n) :
    w.cell? ⟨b, o + k * 6, none⟩ = some (.int .i64 (nth fs (k * 6))) ∧ w.cell? ⟨b, o + k * 6 + 1, none⟩ = some (.int .i64 (nth fs (k * 6 + 1))) ∧ w.cell? ⟨b, o + k * 6 + 2, none⟩ = some (.int .i64 (nth fs (k * 6 + 2))) ∧ w.cell? ⟨b, o + k * 6 + 3, none⟩ = some (.int .i64 (nth fs (k * 6 + 3))) ∧ w.cell? ⟨b, o + k * 6 + 4, none⟩ = some (.int .i64 (nth fs (k * 6 + 4))) ∧ w.cell? ⟨b, o + k * 6 + 5, none⟩ = some (.int .i64 (nth fs (k * 6 + 5))) := by
  refine ⟨?_, ?_, ?_, ?_, ?_, ?_⟩
  · have := hc (k * 6) (by omega); rwa [show o + (k * 6) = o + k * 6 by omega] at this
  · have := hc (k * 6 + 1) (by omega); rwa [show o + (k * 6 + 1) = o + k * 6 + 1 by omega] at this
  · have := hc (k * 6 + 2) (by omega); rwa [show o + (k * 6 + 2) = o + k * 6 + 2 by omega] at this
  · have := hc (k * 6 + 3) (by omega); rwa [show o + (k * 6 + 3) = o + k * 6 + 3 by omega] at this
  · have := hc (k * 6 + 4) (by omega); rwa [show o + (k * 6 + 4) = o + k * 6 + 4 by omega] at this
  · have := hc (k * 6 + 5) (by omega); rwa [show o + (k * 6 + 5) = o + k * 6 + 5 by omega] at this
set_option maxHeartbeats 400000 in
theorem toDamage6_any (x0 x1 x2 x3 x4 x5 : Int) (w : World) :
    Calls Try.prog 8 #[.agg #[.int .i64 x0, .int .i64 x1, .int .i64 x2, .int .i64 x3, .int .i64 x4, .int .i64 x5]] w fun e' w' => e' = .returned (.agg #[.int .i64 x0, .int .i64 x1, .int .i64 x2, .int .i64 x3, .int .i64 x4, .int .i64 x5]) ∧ Below w.heap.size w w' := by
  go_enter Try.func8, Try.ntmps8
  go_wp2
  go_returns
  exact ⟨rfl, by go_grown⟩
theorem eqDamage6_same (x0 x1 x2 x3 x4 x5 : Int) (w : World) :
    Calls Try.prog 45 #[.agg #[.int .i64 x0, .int .i64 x1, .int .i64 x2, .int .i64 x3, .int .i64 x4, .int .i64 x5], .agg #[.int .i64 x0, .int .i64 x1, .int .i64 x2, .int .i64 x3, .int .i64 x4, .int .i64 x5]] w fun e w' => e = .returned (.bool true) ∧ Below w.heap.size w w' := by
  have h0 : (x0 != x0) = false := by simp
  have h1 : (x1 != x1) = false := by simp
  have h2 : (x2 != x2) = false := by simp
  have h3 : (x3 != x3) = false := by simp
  have h4 : (x4 != x4) = false := by simp
  have h5 : (x5 != x5) = false := by simp
  go_enter Try.func45, Try.ntmps45
  go_wp2_with fail
  go_ret
  exact ⟨rfl, by (repeat (first | (with_reducible assumption) | (with_reducible exact Below.refl _ _) | (with_reducible refine below_drewN' ?_ _) | (with_reducible refine Below.drew ?_) | ((with_reducible refine Below.alloc ?_ ?_ _); rotate_left; focus (first | (simp; done) | (simp; omega) | omega)) | ((with_reducible refine Below.setCell ?_ ?_ _); rotate_left; focus (first | (simp; done) | (simp; omega) | omega))))⟩
set_option maxHeartbeats 4000000 in
theorem eqDamageS_same (v1 v2 : Value) (n : Nat) (fs : List Int) (w : World) (B1 B2 : Nat) (h1 : OwnG w B1 v1 n fs) (h2 : OwnG w B2 v2 n fs) (hn : n ≤ 2000000) :
    Calls Try.prog 23 #[v1, v2] w fun e w' => e = .returned (.bool true) ∧ Below w.heap.size w w' := by
  obtain ⟨A1, c1, rfl⟩ := h1.shape
  obtain ⟨A2, c2, rfl⟩ := h2.shape
  have H1 := Lib.hid h1
  have H2 := Lib.hid h2
  clear h1 h2
  have hnn : ((n : Int) != (n : Int)) = false := by simp
  go_enter Try.func23, Try.ntmps23
  go_wp2_with fail
  go_loopw [5] (fun i wr => ∃ k : Nat, k ≤ n ∧ i = .int .i64 k ∧ Hid (Below w.heap.size w wr)) (fun i _ => n - (intOf i).toNat)
  case atStart => exact ⟨0, Nat.zero_le _, rfl, Below.refl _ _⟩
  case round =>
    obtain ⟨k, hk, rfl, hbel⟩ := hrel
    have hbw := hbel.out
    by_cases hlt : k < n
    · have o1 := H1.out.keep hbw
      have o2 := H2.out.keep hbw
      obtain ⟨g1, q1, e1, hB1, hg1, hc1, -⟩ := o1.row (by omega)
      obtain ⟨g2, q2, e2, hB2, hg2, hc2, -⟩ := o2.row (by omega)
      simp only [Value.slice.injEq] at e1 e2
      obtain ⟨rfl, -, -⟩ := e1
      obtain ⟨rfl, -, -⟩ := e2
      have a0 := hc1 (k * 6) (by omega)
      have a1 := hc1 (k * 6 + 1) (by omega)
      have a2 := hc1 (k * 6 + 2) (by omega)
      have a3 := hc1 (k * 6 + 3) (by omega)
      have a4 := hc1 (k * 6 + 4) (by omega)
      have a5 := hc1 (k * 6 + 5) (by omega)
      have b0 := hc2 (k * 6) (by omega)
      have b1 := hc2 (k * 6 + 1) (by omega)
      have b2 := hc2 (k * 6 + 2) (by omega)
      have b3 := hc2 (k * 6 + 3) (by omega)
      have b4 := hc2 (k * 6 + 4) (by omega)
      have b5 := hc2 (k * 6 + 5) (by omega)
      have HE := Lib.hid (fun w => eqDamage6_same (nth fs (k * 6)) (nth fs (k * 6 + 1)) (nth fs (k * 6 + 2)) (nth fs (k * 6 + 3)) (nth fs (k * 6 + 4)) (nth fs (k * 6 + 5)) w)
      generalize nth fs (k * 6) = x0 at *
      generalize nth fs (k * 6 + 1) = x1 at *
      generalize nth fs (k * 6 + 2) = x2 at *
      generalize nth fs (k * 6 + 3) = x3 at *
      generalize nth fs (k * 6 + 4) = x4 at *
      generalize nth fs (k * 6 + 5) = x5 at *
      have hsw := hbw.size
      clear hc1 hc2 o1 o2
      go_wp2_with fail
      refine wp_region_qat [] 10 [] (by kernel_rfl) (by kernel_rfl) ?_
      intro hbc
      simp only [List.take_succ_cons, List.take_zero, List.drop_succ_cons, List.drop_zero]
      repeat (first
        | refine wpQ_pass rfl ?_
        | (refine wpQ_step rfl (fun K hK => ?_)
           go_simp
           first
             | (refine hK _ ?_; clear hK K)
             | (apply Exists.intro
                refine ⟨fun z => ?_, ?_⟩
                focus (first | (go_at_call 45; exact HE.out _))
                refine hK _ ?_
                clear hK K)))
      refine wpQ_nil ⟨?_, ?_⟩
      · exact rfl
      intro  w3 hb3 hF3
      clear hbc
      obtain ⟨hc3, hf3⟩ := bcell hb3
      have hB3 : Below w.heap.size w w3 := below_then (by first | (go_grown; done) | (repeat (first | (with_reducible assumption) | (with_reducible exact Below.refl _ _) | (with_reducible refine below_drewN' ?_ _) | (with_reducible refine Below.drew ?_) | ((with_reducible refine Below.alloc ?_ ?_ _); rotate_left; focus (first | (simp; done) | (simp; omega) | omega)) | ((with_reducible refine Below.setCell ?_ ?_ _); rotate_left; focus (first | (simp; done) | (simp; omega) | omega))))) (by first | (simp; done) | (simp; omega) | omega) hb3
      clear hF3
      try simp only [Act.put, List.setIfInBounds_toArray, List.set_cons_succ, List.set_cons_zero]
      clear a0 a1 a2 a3 a4 a5 b0 b1 b2 b3 b4 b5 hc3 hf3
      go_wp2_with fail
      go_roundw
      case rel => exact ⟨k + 1, by omega, by go_num, hB3⟩
      case measure => simp [intOf]; omega
    · go_wp2_with fail
      go_ret
      exact ⟨rfl, hbw⟩
theorem marks_mixG {xs : List Int} {m : Int} {k L : Nat} (hL : xs.length = L) (hk : k < L) : ((marks m L).take k ++ xs.drop k).set k (m + k) = (marks m L).take (k + 1) ++ xs.drop (k + 1) := by
  subst hL
  have h := set_mix (xs := xs) (ys := marks m xs.length) (k := k) (by rw [marks_len]) hk
  rwa [nth_marks hk] at h
set_option maxHeartbeats 4000000 in
theorem markDamageS_any (v : Value) (n : Nat) (fs : List Int) (m : Int) (w : World) (B : Nat) (ho : OwnG w B v n fs) (hn : n ≤ 2000000) (hm0 : 0 ≤ m) (hm1 : m ≤ 1000000) :
    Calls Try.prog 24 #[v, .int .i64 m] w fun e w' => e = .returned (.int .i64 (m + 6 * n)) ∧ OwnG w' B v n (marks m (n * 6)) ∧ w.grownBy w' v.ownBlock := by
  rcases Nat.eq_zero_or_pos n with h0 | h0
  · subst h0
    obtain ⟨A, c, rfl⟩ := ho.shape
    have hx : fs = [] := List.length_eq_zero_iff.1 (by have := ho.len; omega)
    subst hx
    have HO := Lib.hid ho
    clear ho
    go_enter Try.func24, Try.ntmps24
    go_wp2_with fail
    refine wp_loop_rounds 1 ?_
    rw [rounds_succ]
    go_wp2_with fail
    go_ret
    exact ⟨ret_int (by simp), HO.out, World.grownBy.refl _ _⟩
  obtain ⟨g, c, rfl, hB, hg, hc, hf⟩ := ho.row h0
  have HL := Lib.hid ho.len
  have HO := Lib.hid ho
  clear ho hc hf
  go_enter Try.func24, Try.ntmps24
  go_wp2_with fail
  go_loopw [1, 5] (fun q i wr => ∃ k : Nat, k ≤ n ∧ i = .int .i64 k ∧ q = .int .i64 (m + 6 * k) ∧ Hid (OwnG wr B (.slice (some ⟨g, 0, none⟩) n c) n ((marks m (n * 6)).take (k * 6) ++ fs.drop (k * 6))) ∧ Hid (w.grownBy wr (some g)))
    (fun _ i _ => n - (intOf i).toNat)
  case atStart => exact ⟨0, Nat.zero_le _, rfl, by simp, Lib.hid (by simpa using HO.out), World.grownBy.refl _ _⟩
  case round =>
    obtain ⟨k, hk, rfl, rfl, hown, hgr⟩ := hrel
    by_cases hlt : k < n
    · have ho2 := hown.out
      obtain ⟨g', c', e', hB', hg', hc', hf'⟩ := ho2.row (by omega)
      simp only [Value.slice.injEq, Option.some.injEq, Addr.mk.injEq, and_true] at e'
      obtain ⟨rfl, -, rfl⟩ := e'
      have k0 := hc' (k * 6) (by omega)
      have k1 := hc' (k * 6 + 1) (by omega)
      have k2 := hc' (k * 6 + 2) (by omega)
      have k3 := hc' (k * 6 + 3) (by omega)
      have k4 := hc' (k * 6 + 4) (by omega)
      have k5 := hc' (k * 6 + 5) (by omega)
      generalize nth ((marks m (n * 6)).take (k * 6) ++ fs.drop (k * 6)) (k * 6) = y0 at k0
      generalize nth ((marks m (n * 6)).take (k * 6) ++ fs.drop (k * 6)) (k * 6 + 1) = y1 at k1
      generalize nth ((marks m (n * 6)).take (k * 6) ++ fs.drop (k * 6)) (k * 6 + 2) = y2 at k2
      generalize nth ((marks m (n * 6)).take (k * 6) ++ fs.drop (k * 6)) (k * 6 + 3) = y3 at k3
      generalize nth ((marks m (n * 6)).take (k * 6) ++ fs.drop (k * 6)) (k * 6 + 4) = y4 at k4
      generalize nth ((marks m (n * 6)).take (k * 6) ++ fs.drop (k * 6)) (k * 6 + 5) = y5 at k5
      have HSET := Lib.hid ((((((hown.out.set (k := k * 6) (u := m + 6 * k)).set (k := k * 6 + 1) (u := m + 6 * k + 1)).set (k := k * 6 + 2) (u := m + 6 * k + 1 + 1)).set (k := k * 6 + 3) (u := m + 6 * k + 1 + 1 + 1)).set (k := k * 6 + 4) (u := m + 6 * k + 1 + 1 + 1 + 1)).set (k := k * 6 + 5) (u := m + 6 * k + 1 + 1 + 1 + 1 + 1))
      have hmix0 := marks_mixG (m := m) (k := k * 6) HL.out (by omega)
      have hmix1 := marks_mixG (m := m) (k := k * 6 + 1) HL.out (by omega)
      have hmix2 := marks_mixG (m := m) (k := k * 6 + 2) HL.out (by omega)
      have hmix3 := marks_mixG (m := m) (k := k * 6 + 3) HL.out (by omega)
      have hmix4 := marks_mixG (m := m) (k := k * 6 + 4) HL.out (by omega)
      have hmix5 := marks_mixG (m := m) (k := k * 6 + 5) HL.out (by omega)
      rw [show m + ((k * 6 : Nat) : Int) = m + 6 * k by omega] at hmix0
      rw [show m + ((k * 6 + 1 : Nat) : Int) = m + 6 * k + 1 by omega] at hmix1
      rw [show m + ((k * 6 + 2 : Nat) : Int) = m + 6 * k + 1 + 1 by omega] at hmix2
      rw [show m + ((k * 6 + 3 : Nat) : Int) = m + 6 * k + 1 + 1 + 1 by omega] at hmix3
      rw [show m + ((k * 6 + 4 : Nat) : Int) = m + 6 * k + 1 + 1 + 1 + 1 by omega] at hmix4
      rw [show m + ((k * 6 + 5 : Nat) : Int) = m + 6 * k + 1 + 1 + 1 + 1 + 1 by omega] at hmix5
      rw [hmix0, hmix1, hmix2, hmix3, hmix4, hmix5, show k * 6 + 5 + 1 = (k + 1) * 6 by omega] at HSET
      clear hmix0 hmix1 hmix2 hmix3 hmix4 hmix5 hc' hB' hg' ho2
      go_wp2_with fail
      go_roundw
      case rel => exact ⟨k + 1, by omega, by go_num, by go_num, Lib.hid HSET.out, Lib.hid (grown_set (grown_set (grown_set (grown_set (grown_set (grown_set hgr.out _) _) _) _) _) _)⟩
      case measure => simp [intOf]; omega
    · have hkn : k = n := by omega
      have hfin : OwnG wr B (.slice (some ⟨g, 0, none⟩) n c) n (marks m (n * 6)) := hown.out.to (by
        rw [hkn, List.take_of_length_le (by rw [marks_len]; omega), List.drop_of_length_le (by rw [HL.out]; omega), List.append_nil])
      have HF := Lib.hid hfin
      clear hfin hkn
      go_wp2_with fail
      go_ret
      exact ⟨ret_int (by omega), HF.out, hgr.out⟩
set_option maxHeartbeats 8000000 in
theorem toDamageS_any (A : Option Addr) (n c : Nat) (fs : List Int) (w : World) (B : Nat) (hr : RI w B A (n * 6) fs) (hB : B ≤ w.heap.size) (hn : n ≤ 2000000) :
    Calls Try.prog 19 #[.slice A n c] w fun e w' => ∃ v', e = .returned v' ∧ OwnG w' w.heap.size v' n fs ∧ Below w.heap.size w w' := by
  obtain ⟨i0, hi⟩ := info_own' info_damages
  have HI := Lib.hid (And.intro i0.bytes.le_refl hi)
  have HL := Lib.hid hr.len
  have HR := Lib.hid (hr.more hB)
  clear hr hi
  go_enter Try.func19, Try.ntmps19
  go_wp2_with (at_make; refine wpList_make_full w rfl _ _ 51 rfl w.heap.size 25 i0 (.agg #[.int .i64 0, .int .i64 0, .int .i64 0, .int .i64 0, .int .i64 0, .int .i64 0]) 6 Try.underlying51 HI.out.2.1 HI.out.2.2.1 HI.out.2.2.2.1 .i64 .i64 n n n (by rfl) (by rfl) rfl rfl (by rw [HI.out.2.2.2.2]; omega) (by unfold maxLen; omega) (Nat.le_refl _) ?_; intro w1 hown1 hgrow1)
  have HO := Lib.hid (OwnG.made hown1)
  have HB := Lib.hid ((Below.refl w.heap.size w).grown hgrow1 (Nat.le_refl _) (fun k hk => by cases hk))
  clear hown1 hgrow1
  go_loopw [4] (fun i wr => ∃ k : Nat, k ≤ n ∧ i = .int .i64 k ∧ Hid (OwnG wr w.heap.size (.slice (some ⟨w.heap.size, 0, none⟩) n n) n (fs.take (k * 6) ++ List.replicate ((n - k) * 6) 0)) ∧ Hid (Below w.heap.size w wr))
    (fun i _ => n - (intOf i).toNat)
  case atStart => exact ⟨0, Nat.zero_le _, rfl, Lib.hid (by simpa using HO.out), HB.out⟩
  case round =>
    obtain ⟨k, hk, rfl, hown, hbel⟩ := hrel
    by_cases hlt : k < n
    · obtain ⟨b, o, rfl, hb, hc⟩ := (HR.out.below hbel.out).cells (by omega)
      obtain ⟨c0, c1, c2, c3, c4, c5⟩ := ri6 hc hlt
      have HT := Lib.hid (fun w => toDamage6_any (nth fs (k * 6)) (nth fs (k * 6 + 1)) (nth fs (k * 6 + 2)) (nth fs (k * 6 + 3)) (nth fs (k * 6 + 4)) (nth fs (k * 6 + 5)) w)
      have htk := take6 (fs := fs) (k := k) (n := n) HL.out hlt
      have HTK := Lib.hid htk
      generalize nth fs (k * 6) = x0 at *
      generalize nth fs (k * 6 + 1) = x1 at *
      generalize nth fs (k * 6 + 2) = x2 at *
      generalize nth fs (k * 6 + 3) = x3 at *
      generalize nth fs (k * 6 + 4) = x4 at *
      generalize nth fs (k * 6 + 5) = x5 at *
      clear hc htk
      have hrep : List.replicate ((n - k) * 6) (0 : Int) = 0 :: 0 :: 0 :: 0 :: 0 :: 0 :: List.replicate ((n - (k + 1)) * 6) 0 := by rw [show n - k = n - (k + 1) + 1 by omega]; exact rep6 _
      have HREP := Lib.hid hrep
      have hsw := hbel.out.size
      have hbw : b < wr.heap.size := by omega
      clear hrep
      go_wp2_with fail
      go_at_call 8
      with_reducible refine (HT.out _).mono ?_
      rintro e2 w2 ⟨rfl, hb2⟩
      have HO2 := Lib.hid (hown.out.keep hb2)
      have HB2 := Lib.hid (hbel.out.trans (hb2.mono hsw))
      obtain ⟨g', c', e', hB', hg', hc', hf'⟩ := HO2.out.row (by omega)
      simp only [Value.slice.injEq, Option.some.injEq, Addr.mk.injEq, and_true] at e'
      obtain ⟨rfl, -, rfl⟩ := e'
      have k0 := hc' (k * 6) (by omega)
      generalize nth (fs.take (k * 6) ++ List.replicate ((n - k) * 6) 0) (k * 6) = y0 at k0
      have k1 := hc' (k * 6 + 1) (by omega)
      generalize nth (fs.take (k * 6) ++ List.replicate ((n - k) * 6) 0) (k * 6 + 1) = y1 at k1
      have k2 := hc' (k * 6 + 2) (by omega)
      generalize nth (fs.take (k * 6) ++ List.replicate ((n - k) * 6) 0) (k * 6 + 2) = y2 at k2
      have k3 := hc' (k * 6 + 3) (by omega)
      generalize nth (fs.take (k * 6) ++ List.replicate ((n - k) * 6) 0) (k * 6 + 3) = y3 at k3
      have k4 := hc' (k * 6 + 4) (by omega)
      generalize nth (fs.take (k * 6) ++ List.replicate ((n - k) * 6) 0) (k * 6 + 4) = y4 at k4
      have k5 := hc' (k * 6 + 5) (by omega)
      generalize nth (fs.take (k * 6) ++ List.replicate ((n - k) * 6) 0) (k * 6 + 5) = y5 at k5
      have hf2 := hf' 0
      have hlen : (fs.take (k * 6)).length = k * 6 := by rw [List.length_take, HL.out]; omega
      have HSET := Lib.hid ((((((HO2.out.set (k := k * 6) (u := x0)).set (k := k * 6 + 1) (u := x1)).set (k := k * 6 + 2) (u := x2)).set (k := k * 6 + 3) (u := x3)).set (k := k * 6 + 4) (u := x4)).set (k := k * 6 + 5) (u := x5))
      rw [HREP.out, set6 hlen, ← HTK.out] at HSET
      have HS := HSET
      clear hc' hb2 hown hlen HSET
      go_wp2_with fail
      go_roundw
      case rel => exact ⟨k + 1, by omega, by go_num, HS, Lib.hid ((((((HB2.out.setCell (p := ⟨w.heap.size, k * 6, none⟩) (Nat.le_refl _) _).setCell (p := ⟨w.heap.size, k * 6 + 1, none⟩) (Nat.le_refl _) _).setCell (p := ⟨w.heap.size, k * 6 + 2, none⟩) (Nat.le_refl _) _).setCell (p := ⟨w.heap.size, k * 6 + 3, none⟩) (Nat.le_refl _) _).setCell (p := ⟨w.heap.size, k * 6 + 4, none⟩) (Nat.le_refl _) _).setCell (p := ⟨w.heap.size, k * 6 + 5, none⟩) (Nat.le_refl _) _)⟩
      case measure => simp [intOf]; omega
    · have hkn : k = n := by omega
      have hfin : OwnG wr w.heap.size (.slice (some ⟨w.heap.size, 0, none⟩) n n) n fs := by
        have := hown.out
        rwa [hkn, List.take_of_length_le (by rw [HL.out]; exact Nat.le_refl _), Nat.sub_self, Nat.zero_mul, List.replicate_zero, List.append_nil] at this
      have HF := Lib.hid hfin
      clear hfin hkn
      go_wp2_with fail
      go_ret
      exact ⟨_, rfl, HF.out, hbel.out⟩
theorem szDamageS_ok (A : Option Addr) (n c m : Nat) (w : World) (h : n ≤ m) (hm : m ≤ 1000000000) :
    Calls Try.prog 17 #[.slice A n c, .int .i64 m] w fun e w' => e = .returned (.int .i64 (m - n : Nat)) ∧ w = w' := by
  have hi : ¬ ((m : Int) - n < 0) := by omega
  go_enter Try.func17, Try.ntmps17
  go_wp2_with fail
  go_ret
  exact ⟨ret_int (by omega), rfl⟩
theorem szDamageS_no (A : Option Addr) (n c m : Nat) (w : World) (h : m < n) (hn : n ≤ 9223372036854775807) :
    Calls Try.prog 17 #[.slice A n c, .int .i64 m] w fun e w' => e = .returned (.int .i64 (-1)) ∧ w = w' := by
  have hi : ((m : Int) - n < 0) := by omega
  go_enter Try.func17, Try.ntmps17
  go_wp2_with fail
  go_ret
  exact ⟨rfl, rfl⟩
end Go.Proofs.Ytffcjmnldmjocaa
