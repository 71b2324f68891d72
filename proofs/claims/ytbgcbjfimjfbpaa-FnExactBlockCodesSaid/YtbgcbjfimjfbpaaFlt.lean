/-
  Slices of codes, five numbers each, told as one list of numbers. The laws' own words on them: equal, marked, held.
-/
import Derived.Test.YtbgcbjfimjfbpaaC07
import Derived.Test.YtbgcbjfimjfbpaaSlice
import Derived.Test.YtbgcbjfimjfbpaaToS
namespace Go.Proofs.Ytbgcbjfimjfbpaa
set_option linter.unusedSimpArgs false
open Go.RowKit

/-- The slice value v owns n codes, whose numbers are fs in turn; its block has a number from B on. -/
def OwnF (w : World) (B : Nat) (v : Value) (n : Nat) (fs : List Int) : Prop := w.ownsRow B 95 5 v n (fs.map (Value.int .i64))
theorem info_codes : (Try.prog.info? 95).map (fun i => (i.zero, i.size, i.bytes)) = some (some (.agg #[.int .i64 0, .int .i64 0, .int .i64 0, .int .i64 0, .int .i64 0]), 5, 40) := by kernel_rfl
section
variable {w w' : World} {B B' n : Nat} {v : Value} {fs gs : List Int}
theorem OwnF.len (h : OwnF w B v n fs) : fs.length = n * 5 := by have := h.1; simpa using this
theorem OwnF.keep (h : OwnF w B v n fs) (hb : Below w.heap.size w w') : OwnF w' B v n fs := by
  refine ⟨h.1, ?_⟩
  rcases h.2 with h' | ⟨g, cap, cur, rfl, hB, hg, hr⟩
  · exact .inl h'
  · exact .inr ⟨g, cap, cur, rfl, hB, (hb.block g (lt_of_block hg)).trans hg, hr⟩
theorem OwnF.more (h : OwnF w B v n fs) (hB : B' ≤ B) : OwnF w B' v n fs := by
  refine ⟨h.1, ?_⟩
  rcases h.2 with h' | ⟨g, cap, cur, rfl, hB', hg, hr⟩
  · exact .inl h'
  · exact .inr ⟨g, cap, cur, rfl, by omega, hg, hr⟩
theorem OwnF.drewN (h : OwnF w B v n fs) (k : Nat) : OwnF (w.drewN k) B v n fs := h
theorem OwnF.to (h : OwnF w B v n fs) (e : fs = gs) : OwnF w B v n gs := e ▸ h
theorem OwnF.nil : OwnF w B (.slice none 0 0) 0 [] := World.ownsRow_nil _ _ _ _
theorem OwnF.alloc (h : OwnF w B v n fs) (o : Obj) : (w.alloc o).ownsRow B 95 5 v n (fs.map (Value.int .i64)) := World.ownsRow.alloc h o
theorem OwnF.rows (h : OwnF w B v n fs) : ∀ k, v.ownBlock = some k → B ≤ k := fun k hk => (World.ownsRow.lt h k hk).1
theorem OwnF.shape (h : OwnF w B v n fs) : ∃ A c, v = .slice A n c := by
  rcases h.2 with ⟨rfl, h0⟩ | ⟨g, cap, cur, rfl, hB, hg, hr⟩
  · exact ⟨none, 0, by rw [h0]⟩
  · exact ⟨_, cap, rfl⟩
theorem OwnF.row (h : OwnF w B v n fs) (h0 : 0 < n) : ∃ g c, v = .slice (some ⟨g, 0, none⟩) n c ∧ B ≤ g ∧ g < w.heap.size ∧
    (∀ k, k < n * 5 → w.cell? ⟨g, k, none⟩ = some (.int .i64 (nth fs k))) ∧ (∀ k, w.frozen? ⟨g, k, none⟩ = false) := by
  have hlen := h.len
  rcases h.2 with ⟨rfl, h0'⟩ | ⟨g, cap, cur, rfl, hB, hg, hr⟩
  · omega
  · have hf : w.ownsRow B 95 5 (.slice (some ⟨g, 0, none⟩) n cap) n (fs.map (Value.int .i64)) := h
    refine ⟨g, cap, rfl, hB, lt_of_block hg, fun k hk => ?_, fun k => hf.frozenAt k⟩
    rw [hf.cellAt k hk]
    exact nth_map fs k (by omega)
theorem OwnF.set {g c k : Nat} {u : Int} (h : OwnF w B (.slice (some ⟨g, 0, none⟩) n c) n fs) : OwnF (w.setCell ⟨g, k, none⟩ (.int .i64 u)) B (.slice (some ⟨g, 0, none⟩) n c) n (fs.set k u) := by
  have h1 := (World.ownsRow.stored (show w.ownsRow B 95 5 (.slice (some ⟨g, 0, none⟩) n c) n (fs.map (Value.int .i64)) from h) k (.int .i64 u)).1
  unfold OwnF
  rw [List.map_set]
  exact h1
theorem OwnF.snoc {x0 x1 x2 x3 x4 : Int} (h : w.ownsRow B 95 5 v (n + 1) (fs.map (Value.int .i64) ++ [.int .i64 x0, .int .i64 x1, .int .i64 x2, .int .i64 x3, .int .i64 x4])) : OwnF w B v (n + 1) (fs ++ [x0, x1, x2, x3, x4]) := by
  unfold OwnF; simpa using h
theorem OwnF.empty (w : World) (hB : B ≤ w.heap.size) : OwnF (w.alloc (.cells #[] 95)) B (.slice (some ⟨w.heap.size, 0, none⟩) 0 0) 0 [] := by
  have := World.ownsRow_made (e := 95) (size := 5) (base := B) w #[] 0 hB (by unfold maxLen; omega) rfl
  unfold OwnF
  simpa using this
theorem OwnF.made (h : w.ownsRow B 95 5 v n (madeCells (Value.agg #[.int .i64 0, .int .i64 0, .int .i64 0, .int .i64 0, .int .i64 0]).cells (n * 5)).toList) : OwnF w B v n (List.replicate (n * 5) 0) := by
  unfold OwnF
  have e : (madeCells (Value.agg #[.int .i64 0, .int .i64 0, .int .i64 0, .int .i64 0, .int .i64 0]).cells (n * 5)).toList = (List.replicate (n * 5) (0 : Int)).map (Value.int .i64) := by
    apply List.ext_getElem?
    intro i
    rw [List.getElem?_map, Array.getElem?_toList]
    rcases Nat.lt_or_ge i (n * 5) with hi | hi
    · have h5 : i % 5 < 5 := Nat.mod_lt _ (by omega)
      have h6 : i % 5 = 0 ∨ i % 5 = 1 ∨ i % 5 = 2 ∨ i % 5 = 3 ∨ i % 5 = 4 := by omega
      simp [madeCells, Value.cells, hi, List.getElem?_replicate]
      rcases h6 with h | h | h | h | h <;> rw [h] <;> rfl
    · simp [madeCells, Value.cells, List.getElem?_replicate, Nat.not_lt.2 hi]
  rw [← e]; exact h
end
theorem int5_ok (x0 x1 x2 x3 x4 : Int) : ∀ u ∈ [Value.int .i64 x0, .int .i64 x1, .int .i64 x2, .int .i64 x3, .int .i64 x4], u.oneCell' = true := by
  intro u hu; simp at hu; rcases hu with rfl | rfl | rfl | rfl | rfl <;> rfl
theorem cells5_new (w : World) (cs : List Value) (t : TypeId) : ∀ j u, cs[j]? = some u → (w.alloc (.cells cs.toArray t)).cell? ((⟨w.heap.size, 0, none⟩ : Addr).add j) = some u := by
  intro j u hj
  have hadd : (⟨w.heap.size, 0, none⟩ : Addr).add j = ⟨w.heap.size, j, none⟩ := by unfold Addr.add; split <;> simp_all
  rw [hadd, cell_of_row _ _ j cs.toArray t (0, 0) (heap_alloc_new w _)]
  simpa using hj
/-- Five stores one behind the other. -/
theorem set5 {L R : List Int} {a0 a1 a2 a3 a4 x0 x1 x2 x3 x4 : Int} {k : Nat} (h : L.length = k) :
    (((((L ++ a0 :: a1 :: a2 :: a3 :: a4 :: R).set k x0).set (k + 1) x1).set (k + 2) x2).set (k + 3) x3).set (k + 4) x4 = L ++ [x0, x1, x2, x3, x4] ++ R := by
  subst h
  simp [List.set_append]
theorem eqCode_same5 (p k g l c : Int) (w : World) (HE : ∀ w, Calls Try.prog 54 #[.agg #[.int .i64 p, .int .i64 k, .int .i64 g], .agg #[.int .i64 p, .int .i64 k, .int .i64 g]] w fun e w' => e = .returned (.bool true) ∧ Below w.heap.size w w') :
    Calls Try.prog 76 #[.agg #[.int .i64 p, .int .i64 k, .int .i64 g, .int .i64 l, .int .i64 c], .agg #[.int .i64 p, .int .i64 k, .int .i64 g, .int .i64 l, .int .i64 c]] w fun e w' => e = .returned (.bool true) ∧ Below w.heap.size w w' := by
  have h2 : (l != l) = false := by simp
  have h3 : (c != c) = false := by simp
  have HE := Lib.hid HE
  go_enter Try.func76, Try.ntmps76
  go_wp2_with (go_at_call 54; with_reducible refine (HE.out _).mono ?_; rintro e1 w1 ⟨rfl, hb1⟩; obtain ⟨hc1, hf1⟩ := bcell hb1; have hB1 : Below w.heap.size w w1 := (below_then (by first | (go_grown; done) | (repeat (first | (with_reducible assumption) | (with_reducible exact Below.refl _ _) | (with_reducible refine below_drewN' ?_ _) | (with_reducible refine Below.drew ?_) | ((with_reducible refine Below.alloc ?_ ?_ _); rotate_left; focus (first | (simp; done) | (simp; omega) | omega)) | ((with_reducible refine Below.setCell ?_ ?_ _); rotate_left; focus (first | (simp; done) | (simp; omega) | omega))))) (by first | omega | (simp; done) | (simp; omega)) hb1); have hz1a : w.heap.size < w1.heap.size := (by have := hb1.size; first | omega | (simp at this; omega)); have hz1b : w.heap.size + 1 < w1.heap.size := (by have := hb1.size; first | omega | (simp at this; omega)))
  go_ret
  exact ⟨rfl, by (repeat (first | (with_reducible assumption) | (with_reducible exact Below.refl _ _) | (with_reducible refine below_drewN' ?_ _) | (with_reducible refine Below.drew ?_) | ((with_reducible refine Below.alloc ?_ ?_ _); rotate_left; focus (first | (simp; done) | (simp; omega) | omega)) | ((with_reducible refine Below.setCell ?_ ?_ _); rotate_left; focus (first | (simp; done) | (simp; omega) | omega))))⟩
theorem eqField_same5 (p k g : Int) (w : World) :
    Calls Try.prog 54 #[.agg #[.int .i64 p, .int .i64 k, .int .i64 g], .agg #[.int .i64 p, .int .i64 k, .int .i64 g]] w fun e w' => e = .returned (.bool true) ∧ Below w.heap.size w w' := by
  have h1 : (p != p) = false := by simp
  have h2 : (k != k) = false := by simp
  have h3 : (g != g) = false := by simp
  go_enter Try.func54, Try.ntmps54
  go_wp2_with fail
  go_ret
  exact ⟨rfl, by (repeat (first | (with_reducible assumption) | (with_reducible exact Below.refl _ _) | (with_reducible refine below_drewN' ?_ _) | (with_reducible refine Below.drew ?_) | ((with_reducible refine Below.alloc ?_ ?_ _); rotate_left; focus (first | (simp; done) | (simp; omega) | omega)) | ((with_reducible refine Below.setCell ?_ ?_ _); rotate_left; focus (first | (simp; done) | (simp; omega) | omega))))⟩
set_option maxHeartbeats 4000000 in
theorem eqCodeS_same (v1 v2 : Value) (n : Nat) (fs : List Int) (w : World) (B1 B2 : Nat) (h1 : OwnF w B1 v1 n fs) (h2 : OwnF w B2 v2 n fs) (hn : n ≤ 100000) :
    Calls Try.prog 29 #[v1, v2] w fun e w' => e = .returned (.bool true) ∧ Below w.heap.size w w' := by
  obtain ⟨A1, c1, rfl⟩ := h1.shape
  obtain ⟨A2, c2, rfl⟩ := h2.shape
  have H1 := Lib.hid h1
  have H2 := Lib.hid h2
  clear h1 h2
  have hnn : ((n : Int) != (n : Int)) = false := by simp
  go_enter Try.func29, Try.ntmps29
  go_wp2_with fail
  go_loopw [5] (fun i wr => ∃ k : Nat, k ≤ n ∧ i = .int .i64 k ∧ Hid (Below w.heap.size w wr)) (fun i _ => n - (intOf i).toNat)
  case atStart => exact ⟨0, Nat.zero_le _, rfl, Below.refl _ _⟩
  case round =>
    obtain ⟨k, hk, rfl, hbel⟩ := hrel
    have hbw := hbel.out
    by_cases hlt : k < n
    · have o1 := H1.out.keep hbw
      have o2 := H2.out.keep hbw
      obtain ⟨g1, q1, e1, hB1, hg1, hc1, -⟩ := o1.row (by omega)
      obtain ⟨g2, q2, e2, hB2, hg2, hc2, -⟩ := o2.row (by omega)
      simp only [Value.slice.injEq] at e1 e2
      obtain ⟨rfl, -, -⟩ := e1
      obtain ⟨rfl, -, -⟩ := e2
      have a0 := hc1 (k * 5) (by omega)
      have a1 := hc1 (k * 5 + 1) (by omega)
      have a2 := hc1 (k * 5 + 2) (by omega)
      have a3 := hc1 (k * 5 + 3) (by omega)
      have a4 := hc1 (k * 5 + 4) (by omega)
      have b0 := hc2 (k * 5) (by omega)
      have b1 := hc2 (k * 5 + 1) (by omega)
      have b2 := hc2 (k * 5 + 2) (by omega)
      have b3 := hc2 (k * 5 + 3) (by omega)
      have b4 := hc2 (k * 5 + 4) (by omega)
      have HE := Lib.hid (fun w => eqCode_same5 (nth fs (k * 5)) (nth fs (k * 5 + 1)) (nth fs (k * 5 + 2)) (nth fs (k * 5 + 3)) (nth fs (k * 5 + 4)) w (fun w => eqField_same5 _ _ _ w))
      generalize nth fs (k * 5) = x0 at *
      generalize nth fs (k * 5 + 1) = x1 at *
      generalize nth fs (k * 5 + 2) = x2 at *
      generalize nth fs (k * 5 + 3) = x3 at *
      generalize nth fs (k * 5 + 4) = x4 at *
      have hsw := hbw.size
      clear hc1 hc2 o1 o2
      go_wp2_with fail
      refine wp_region_qat [] 10 [] (by kernel_rfl) (by kernel_rfl) ?_
      intro hbc
      simp only [List.take_succ_cons, List.take_zero, List.drop_succ_cons, List.drop_zero]
      repeat (first
        | refine wpQ_pass rfl ?_
        | (refine wpQ_step rfl (fun K hK => ?_)
           go_simp
           first
             | (refine hK _ ?_; clear hK K)
             | (apply Exists.intro
                refine ⟨fun z => ?_, ?_⟩
                focus (first | (go_at_call 76; exact HE.out _))
                refine hK _ ?_
                clear hK K)))
      refine wpQ_nil ⟨?_, ?_⟩
      · exact rfl
      intro  w3 hb3 hF3
      clear hbc
      obtain ⟨hc3, hf3⟩ := bcell hb3
      have hB3 : Below w.heap.size w w3 := below_then (by first | (go_grown; done) | (repeat (first | (with_reducible assumption) | (with_reducible exact Below.refl _ _) | (with_reducible refine below_drewN' ?_ _) | (with_reducible refine Below.drew ?_) | ((with_reducible refine Below.alloc ?_ ?_ _); rotate_left; focus (first | (simp; done) | (simp; omega) | omega)) | ((with_reducible refine Below.setCell ?_ ?_ _); rotate_left; focus (first | (simp; done) | (simp; omega) | omega))))) (by first | (simp; done) | (simp; omega) | omega) hb3
      clear hF3
      try simp only [Act.put, List.setIfInBounds_toArray, List.set_cons_succ, List.set_cons_zero]
      clear a0 a1 a2 a3 a4 b0 b1 b2 b3 b4 hc3 hf3
      go_wp2_with fail
      go_roundw
      case rel => exact ⟨k + 1, by omega, by go_num, hB3⟩
      case measure => simp [intOf]; omega
    · go_wp2_with fail
      go_ret
      exact ⟨rfl, hbw⟩
theorem marks_mixF {xs : List Int} {m : Int} {k L : Nat} (hL : xs.length = L) (hk : k < L) : ((marks m L).take k ++ xs.drop k).set k (m + k) = (marks m L).take (k + 1) ++ xs.drop (k + 1) := by
  subst hL
  have h := set_mix (xs := xs) (ys := marks m xs.length) (k := k) (by rw [marks_len]) hk
  rwa [nth_marks hk] at h
set_option maxHeartbeats 4000000 in
theorem markCodeS_any (v : Value) (n : Nat) (fs : List Int) (m : Int) (w : World) (B : Nat) (ho : OwnF w B v n fs) (h0 : 0 < n) (hn : n ≤ 100000) (hm0 : 0 ≤ m) (hm1 : m ≤ 1000000) :
    Calls Try.prog 30 #[v, .int .i64 m] w fun e w' => e = .returned (.int .i64 (m + 5 * n)) ∧ OwnF w' B v n (marks m (n * 5)) ∧ w.grownBy w' v.ownBlock := by
  obtain ⟨g, c, rfl, hB, hg, hc, hf⟩ := ho.row h0
  have HL := Lib.hid ho.len
  have HO := Lib.hid ho
  clear ho hc hf
  go_enter Try.func30, Try.ntmps30
  go_wp2_with fail
  go_loopw [1, 5] (fun q i wr => ∃ k : Nat, k ≤ n ∧ i = .int .i64 k ∧ q = .int .i64 (m + 5 * k) ∧ Hid (OwnF wr B (.slice (some ⟨g, 0, none⟩) n c) n ((marks m (n * 5)).take (k * 5) ++ fs.drop (k * 5))) ∧ Hid (w.grownBy wr (some g)))
    (fun _ i _ => n - (intOf i).toNat)
  case atStart => exact ⟨0, Nat.zero_le _, rfl, by simp, Lib.hid (by simpa using HO.out), World.grownBy.refl _ _⟩
  case round =>
    obtain ⟨k, hk, rfl, rfl, hown, hgr⟩ := hrel
    by_cases hlt : k < n
    · have ho2 := hown.out
      obtain ⟨g', c', e', hB', hg', hc', hf'⟩ := ho2.row (by omega)
      simp only [Value.slice.injEq, Option.some.injEq, Addr.mk.injEq, and_true] at e'
      obtain ⟨rfl, -, rfl⟩ := e'
      have k0 := hc' (k * 5) (by omega)
      have k1 := hc' (k * 5 + 1) (by omega)
      have k2 := hc' (k * 5 + 2) (by omega)
      have k3 := hc' (k * 5 + 3) (by omega)
      have k4 := hc' (k * 5 + 4) (by omega)
      generalize nth ((marks m (n * 5)).take (k * 5) ++ fs.drop (k * 5)) (k * 5) = y0 at k0
      generalize nth ((marks m (n * 5)).take (k * 5) ++ fs.drop (k * 5)) (k * 5 + 1) = y1 at k1
      generalize nth ((marks m (n * 5)).take (k * 5) ++ fs.drop (k * 5)) (k * 5 + 2) = y2 at k2
      generalize nth ((marks m (n * 5)).take (k * 5) ++ fs.drop (k * 5)) (k * 5 + 3) = y3 at k3
      generalize nth ((marks m (n * 5)).take (k * 5) ++ fs.drop (k * 5)) (k * 5 + 4) = y4 at k4
      have HSET := Lib.hid (((((hown.out.set (k := k * 5) (u := m + 5 * k)).set (k := k * 5 + 1) (u := m + 5 * k + 1)).set (k := k * 5 + 2) (u := m + 5 * k + 1 + 1)).set (k := k * 5 + 3) (u := m + 5 * k + 1 + 1 + 1)).set (k := k * 5 + 4) (u := m + 5 * k + 1 + 1 + 1 + 1))
      have hmix := marks_mixF (m := m) (k := k * 5) HL.out (by omega)
      have hmix1 := marks_mixF (m := m) (k := k * 5 + 1) HL.out (by omega)
      have hmix2 := marks_mixF (m := m) (k := k * 5 + 2) HL.out (by omega)
      have hmix3 := marks_mixF (m := m) (k := k * 5 + 3) HL.out (by omega)
      have hmix4 := marks_mixF (m := m) (k := k * 5 + 4) HL.out (by omega)
      rw [show m + ((k * 5 : Nat) : Int) = m + 5 * k by omega] at hmix
      rw [show m + ((k * 5 + 1 : Nat) : Int) = m + 5 * k + 1 by omega] at hmix1
      rw [show m + ((k * 5 + 2 : Nat) : Int) = m + 5 * k + 1 + 1 by omega] at hmix2
      rw [show m + ((k * 5 + 3 : Nat) : Int) = m + 5 * k + 1 + 1 + 1 by omega] at hmix3
      rw [show m + ((k * 5 + 4 : Nat) : Int) = m + 5 * k + 1 + 1 + 1 + 1 by omega] at hmix4
      rw [hmix, hmix1, hmix2, hmix3, hmix4, show k * 5 + 4 + 1 = (k + 1) * 5 by omega] at HSET
      clear hmix hmix1 hmix2 hmix3 hmix4 hc' hB' hg' ho2
      go_wp2_with fail
      go_roundw
      case rel => exact ⟨k + 1, by omega, by go_num, by go_num, Lib.hid HSET.out, Lib.hid (grown_set (grown_set (grown_set (grown_set (grown_set hgr.out _) _) _) _) _)⟩
      case measure => simp [intOf]; omega
    · have hkn : k = n := by omega
      have hfin : OwnF wr B (.slice (some ⟨g, 0, none⟩) n c) n (marks m (n * 5)) := hown.out.to (by
        rw [hkn, List.take_of_length_le (by rw [marks_len]; omega), List.drop_of_length_le (by rw [HL.out]; omega), List.append_nil])
      have HF := Lib.hid hfin
      clear hfin hkn
      go_wp2_with fail
      go_ret
      exact ⟨ret_int (by omega), HF.out, hgr.out⟩
set_option maxHeartbeats 4000000 in
theorem heldCodeS_any (v : Value) (n : Nat) (m : Int) (w : World) (B : Nat) (ho : OwnF w B v n (marks m (n * 5))) (h0 : 0 < n) (hn : n ≤ 100000) (hm0 : 0 ≤ m) (hm1 : m ≤ 1000000) :
    Calls Try.prog 31 #[v, .int .i64 m] w fun e w' => e = .returned (.int .i64 (m + 5 * n)) ∧ w = w' := by
  obtain ⟨g, c, rfl, hB, hg, hc, hf⟩ := ho.row h0
  have HC := Lib.hid hc
  clear ho hc hf hB
  go_enter Try.func31, Try.ntmps31
  go_wp2_with fail
  go_loop [1, 5] (fun q i => ∃ k : Nat, k ≤ n ∧ i = .int .i64 k ∧ q = .int .i64 (m + 5 * k)) (fun _ i => n - (intOf i).toNat)
  case atStart => exact ⟨0, Nat.zero_le _, rfl, by simp⟩
  case round =>
    obtain ⟨k, hk, rfl, rfl⟩ := hrel
    by_cases hlt : k < n
    · have k0 := HC.out (k * 5) (by omega)
      have k1 := HC.out (k * 5 + 1) (by omega)
      have k2 := HC.out (k * 5 + 2) (by omega)
      have k3 := HC.out (k * 5 + 3) (by omega)
      have k4 := HC.out (k * 5 + 4) (by omega)
      rw [nth_marks (by omega), show m + ((k * 5 : Nat) : Int) = m + 5 * k by omega] at k0
      rw [nth_marks (by omega), show m + ((k * 5 + 1 : Nat) : Int) = m + 5 * k + 1 by omega] at k1
      rw [nth_marks (by omega), show m + ((k * 5 + 2 : Nat) : Int) = m + 5 * k + 1 + 1 by omega] at k2
      rw [nth_marks (by omega), show m + ((k * 5 + 3 : Nat) : Int) = m + 5 * k + 1 + 1 + 1 by omega] at k3
      rw [nth_marks (by omega), show m + ((k * 5 + 4 : Nat) : Int) = m + 5 * k + 1 + 1 + 1 + 1 by omega] at k4
      have e0 : ((m + 5 * (k : Int)) != (m + 5 * (k : Int))) = false := by simp
      go_wp2_with fail
      go_round
      case rel => exact ⟨k + 1, by omega, by go_num, by go_num⟩
      case measure => simp [intOf]; omega
    · have hkn : k = n := by omega
      have HK := Lib.hid hkn
      clear hkn
      go_wp2_with fail
      go_ret
      exact ⟨ret_int (by have := HK.out; omega), rfl⟩
end Go.Proofs.Ytbgcbjfimjfbpaa
