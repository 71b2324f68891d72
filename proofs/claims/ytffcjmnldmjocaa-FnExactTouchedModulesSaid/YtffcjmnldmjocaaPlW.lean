/-
  The laws' own words on slices of places: equal, marked, held.
-/
import Derived.Test.YtffcjmnldmjocaaPlc
import Derived.Test.YtffcjmnldmjocaaRegion
namespace Go.Proofs.Ytffcjmnldmjocaa
set_option linter.unusedSimpArgs false
open Go.RowKit

theorem pc_set : ∀ {ps : List (Int × Int)} {k : Nat} {a b : Int}, pc (ps.set k (a, b)) = ((pc ps).set (k * 2) (.int .i64 a)).set (k * 2 + 1) (.int .i64 b) := by
  intro ps
  induction ps with
  | nil => intro k a b; rfl
  | cons p ps ih =>
    intro k a b
    cases k with
    | zero => rfl
    | succ k =>
      rw [show (k + 1) * 2 = k * 2 + 1 + 1 by omega]
      simp only [List.set_cons_succ, pc, ih]
/-- The marks from m on, two a place. -/
def marksP (m : Int) : Nat → List (Int × Int)
  | 0 => []
  | n + 1 => (m, m + 1) :: marksP (m + 2) n
theorem marksP_len (m : Int) (n : Nat) : (marksP m n).length = n := by
  induction n generalizing m with
  | zero => rfl
  | succ n ih => simp [marksP, ih]
theorem nthP_marks {m : Int} {n k : Nat} (h : k < n) : nthP (marksP m n) k = (m + 2 * k, m + 2 * k + 1) := by
  induction n generalizing m k with
  | zero => omega
  | succ n ih =>
    cases k with
    | zero => simp [marksP, nthP]
    | succ k =>
      have := ih (m := m + 2) (k := k) (by omega)
      unfold nthP at this ⊢
      simp only [marksP, List.getD_cons_succ]
      rw [this]
      simp only [Prod.mk.injEq]
      omega
theorem set_mixP {ps qs : List (Int × Int)} {k : Nat} (hl : ps.length = qs.length) (hk : k < ps.length) : (qs.take k ++ ps.drop k).set k (nthP qs k) = qs.take (k + 1) ++ ps.drop (k + 1) := by
  rw [take_nthP (by omega), List.drop_eq_getElem_cons hk, List.append_assoc]
  rw [List.set_append_right _ _ (by rw [List.length_take]; omega)]
  rw [List.length_take, Nat.min_eq_left (by omega), Nat.sub_self]
  rfl
theorem len_mixP {ps qs : List (Int × Int)} {k : Nat} (hl : ps.length = qs.length) (hk : k ≤ ps.length) : (qs.take k ++ ps.drop k).length = ps.length := by
  rw [List.length_append, List.length_take, List.length_drop]; omega
theorem OwnP.shape0 {w : World} {B : Nat} {v : Value} {ps : List (Int × Int)} (h : OwnP w B v ps) : ∃ A c, v = .slice A ps.length c := by
  rcases h.2 with ⟨rfl, h0⟩ | ⟨g, cap, cur, rfl, hB, hg, hr⟩
  · exact ⟨none, 0, by rw [h0]⟩
  · exact ⟨_, cap, rfl⟩
theorem OwnP.free {w : World} {B g n c : Nat} {ps : List (Int × Int)} (h : OwnP w B (.slice (some ⟨g, 0, none⟩) n c) ps) (hl : ps.length = n) : ∀ k, w.frozen? ⟨g, k, none⟩ = false := by
  subst hl
  exact fun k => World.ownsRow.frozenAt h k
theorem OwnP.set2 {w : World} {B g n c k : Nat} {ps : List (Int × Int)} {a b : Int} (hl : ps.length = n) (h : OwnP w B (.slice (some ⟨g, 0, none⟩) n c) ps) :
    OwnP ((w.setCell ⟨g, k * 2, none⟩ (.int .i64 a)).setCell ⟨g, k * 2 + 1, none⟩ (.int .i64 b)) B (.slice (some ⟨g, 0, none⟩) n c) (ps.set k (a, b)) := by
  subst hl
  unfold OwnP
  rw [List.length_set, pc_set]
  have h1 := (World.ownsRow.stored (show w.ownsRow B 83 2 (.slice (some ⟨g, 0, none⟩) ps.length c) ps.length (pc ps) from h) (k * 2) (.int .i64 a)).1
  exact (World.ownsRow.stored h1 (k * 2 + 1) (.int .i64 b)).1
theorem eqPlace_same (r c : Int) (w : World) : Calls Try.prog 44 #[.agg #[.int .i64 r, .int .i64 c], .agg #[.int .i64 r, .int .i64 c]] w fun e w' => e = .returned (.bool true) ∧ Below w.heap.size w w' := by
  have hr0 : (r != r) = false := by simp
  have hc0 : (c != c) = false := by simp
  go_enter Try.func44, Try.ntmps44
  go_wp2_with fail
  go_ret
  exact ⟨rfl, by (repeat (first | (with_reducible assumption) | (with_reducible exact Below.refl _ _) | (with_reducible refine below_drewN' ?_ _) | (with_reducible refine Below.drew ?_) | ((with_reducible refine Below.alloc ?_ ?_ _); rotate_left; focus (first | (simp; done) | (simp; omega) | omega)) | ((with_reducible refine Below.setCell ?_ ?_ _); rotate_left; focus (first | (simp; done) | (simp; omega) | omega))))⟩
set_option maxHeartbeats 1000000 in
theorem eqPlaceS_same (v1 v2 : Value) (ps : List (Int × Int)) (w : World) (B1 B2 : Nat) (h1 : OwnP w B1 v1 ps) (h2 : OwnP w B2 v2 ps) (hn : ps.length ≤ 2000000) :
    Calls Try.prog 22 #[v1, v2] w fun e w' => e = .returned (.bool true) ∧ Below w.heap.size w w' := by
  obtain ⟨A1, c1, rfl⟩ := h1.shape0
  obtain ⟨A2, c2, rfl⟩ := h2.shape0
  obtain ⟨n, hnx⟩ : ∃ n, ps.length = n := ⟨_, rfl⟩
  rw [hnx] at h1 h2 hn ⊢
  have HL := Lib.hid hnx
  have H1 := Lib.hid h1
  have H2 := Lib.hid h2
  clear h1 h2 hnx
  have hnn : ((n : Int) != (n : Int)) = false := by simp
  go_enter Try.func22, Try.ntmps22
  go_wp2_with fail
  go_loopw [5] (fun i wr => ∃ k : Nat, k ≤ n ∧ i = .int .i64 k ∧ Hid (Below w.heap.size w wr)) (fun i _ => n - (intOf i).toNat)
  case atStart => exact ⟨0, Nat.zero_le _, rfl, Below.refl _ _⟩
  case round =>
    obtain ⟨k, hk, rfl, hbel⟩ := hrel
    have hbw := hbel.out
    by_cases hlt : k < n
    · have o1 := H1.out.keep hbw
      have o2 := H2.out.keep hbw
      obtain ⟨g1, q1, e1, hB1, hg1, hc1⟩ := o1.cells (by rw [HL.out]; omega)
      obtain ⟨g2, q2, e2, hB2, hg2, hc2⟩ := o2.cells (by rw [HL.out]; omega)
      simp only [Value.slice.injEq] at e1 e2
      obtain ⟨rfl, -, -⟩ := e1
      obtain ⟨rfl, -, -⟩ := e2
      obtain ⟨a0, a1⟩ := hc1 k (by rw [HL.out]; exact hlt)
      obtain ⟨b0, b1⟩ := hc2 k (by rw [HL.out]; exact hlt)
      have HE := Lib.hid (fun w => eqPlace_same (nthP ps k).1 (nthP ps k).2 w)
      generalize (nthP ps k).1 = pr at a0 b0 HE
      generalize (nthP ps k).2 = pq at a1 b1 HE
      have hsw := hbw.size
      clear hc1 hc2 o1 o2
      go_wp2_with fail
      refine wp_region_qat [] 10 [] (by kernel_rfl) (by kernel_rfl) ?_
      intro hbc
      simp only [List.take_succ_cons, List.take_zero, List.drop_succ_cons, List.drop_zero]
      repeat (first
        | refine wpQ_pass rfl ?_
        | (refine wpQ_step rfl (fun K hK => ?_)
           go_simp
           first
             | (refine hK _ ?_; clear hK K)
             | (apply Exists.intro
                refine ⟨fun z => ?_, ?_⟩
                focus (first | (go_at_call 44; exact HE.out _))
                refine hK _ ?_
                clear hK K)))
      refine wpQ_nil ⟨?_, ?_⟩
      · exact rfl
      intro  w3 hb3 hF3
      clear hbc
      obtain ⟨hc3, hf3⟩ := bcell hb3
      have hB3 : Below w.heap.size w w3 := below_then (by first | (go_grown; done) | (repeat (first | (with_reducible assumption) | (with_reducible exact Below.refl _ _) | (with_reducible refine below_drewN' ?_ _) | (with_reducible refine Below.drew ?_) | ((with_reducible refine Below.alloc ?_ ?_ _); rotate_left; focus (first | (simp; done) | (simp; omega) | omega)) | ((with_reducible refine Below.setCell ?_ ?_ _); rotate_left; focus (first | (simp; done) | (simp; omega) | omega))))) (by first | (simp; done) | (simp; omega) | omega) hb3
      clear hF3
      try simp only [Act.put, List.setIfInBounds_toArray, List.set_cons_succ, List.set_cons_zero]
      clear a0 a1 b0 b1 hc3 hf3
      go_wp2_with fail
      go_roundw
      case rel => exact ⟨k + 1, by omega, by go_num, hB3⟩
      case measure => simp [intOf]; omega
    · go_wp2_with fail
      go_ret
      exact ⟨rfl, hbw⟩
set_option maxHeartbeats 1000000 in
theorem markPlaceS_any (v : Value) (ps : List (Int × Int)) (m : Int) (w : World) (B : Nat) (ho : OwnP w B v ps) (hn : ps.length ≤ 2000000) (hm0 : 0 ≤ m) (hm1 : m ≤ 2000000) :
    Calls Try.prog 25 #[v, .int .i64 m] w fun e w' => e = .returned (.int .i64 (m + 2 * ps.length)) ∧ OwnP w' B v (marksP m ps.length) ∧ w.grownBy w' v.ownBlock := by
  rcases Nat.eq_zero_or_pos ps.length with h0 | h0
  · obtain ⟨A, c, rfl⟩ := ho.shape0
    have hx : ps = [] := List.length_eq_zero_iff.1 h0
    subst hx
    clear h0
    have HO := Lib.hid ho
    clear ho
    go_enter Try.func25, Try.ntmps25
    go_wp2_with fail
    refine wp_loop_rounds 1 ?_
    rw [rounds_succ]
    go_wp2_with fail
    go_ret
    exact ⟨ret_int (by simp), HO.out, World.grownBy.refl _ _⟩
  · obtain ⟨g, c, rfl, hB, hg, -⟩ := ho.cells h0
    obtain ⟨n, hnx⟩ : ∃ n, ps.length = n := ⟨_, rfl⟩
    rw [hnx] at ho hn h0 ⊢
    have HN := Lib.hid hnx.symm
    have HO := Lib.hid ho
    clear ho hnx
    go_enter Try.func25, Try.ntmps25
    go_wp2_with fail
    go_loopw [1, 5] (fun q i wr => ∃ k : Nat, k ≤ n ∧ i = .int .i64 k ∧ q = .int .i64 (m + 2 * k) ∧ Hid (OwnP wr B (.slice (some ⟨g, 0, none⟩) n c) ((marksP m n).take k ++ ps.drop k)) ∧ Hid (w.grownBy wr (some g)))
      (fun _ i _ => n - (intOf i).toNat)
    case atStart => exact ⟨0, Nat.zero_le _, rfl, by simp, Lib.hid (by simpa using HO.out), World.grownBy.refl _ _⟩
    case round =>
      obtain ⟨k, hk, rfl, rfl, hown, hgr⟩ := hrel
      have hll : ps.length = (marksP m n).length := by rw [marksP_len]; exact HN.out.symm
      have hlen : ((marksP m n).take k ++ ps.drop k).length = n := by
        rw [len_mixP hll (by rw [← HN.out]; exact hk)]; exact HN.out.symm
      have HL := Lib.hid hlen
      have HLL := Lib.hid hll
      clear hlen hll
      by_cases hlt : k < n
      · obtain ⟨g', c', e', hB', hg', hc'⟩ := hown.out.cells (by rw [HL.out]; omega)
        obtain ⟨rfl, rfl⟩ : g = g' ∧ c = c' := by
          simp only [Value.slice.injEq, Option.some.injEq, Addr.mk.injEq, and_true] at e'
          exact ⟨e'.1, e'.2.2⟩
        obtain ⟨a0, a1⟩ := hc' k (by rw [HL.out]; exact hlt)
        have hf0 := hown.out.free HL.out (k * 2)
        have hf1 := hown.out.free HL.out (k * 2 + 1)
        have hset := Lib.hid (OwnP.set2 HL.out hown.out (k := k) (a := m + 2 * k) (b := m + 2 * k + 1))
        have hmx := Lib.hid (set_mixP HLL.out (k := k) (by rw [← HN.out]; exact hlt))
        have hmk := Lib.hid (nthP_marks (m := m) hlt)
        have hgr2 := Lib.hid (grown_set (k := k * 2 + 1) (grown_set (k := k * 2) hgr.out (.int .i64 (m + 2 * k))) (.int .i64 (m + 2 * k + 1)))
        clear hc' e' hB'
        go_wp2_with fail
        go_roundw
        case rel => exact ⟨k + 1, by omega, by go_num, by go_num, Lib.hid (by rw [← hmx.out, hmk.out]; exact hset.out), hgr2⟩
        case measure => simp [intOf]; omega
      · have hkn : k = n := by omega
        have hfin : OwnP wr B (.slice (some ⟨g, 0, none⟩) n c) (marksP m n) := by
          have := hown.out
          rwa [hkn, List.take_of_length_le (by rw [marksP_len]; exact Nat.le_refl _), List.drop_of_length_le (by rw [← HN.out]; exact Nat.le_refl _), List.append_nil] at this
        have HF := Lib.hid hfin
        have HK := Lib.hid hkn
        clear hfin hkn
        go_wp2_with fail
        go_ret
        exact ⟨ret_int (by have := HK.out; omega), HF.out, hgr.out⟩
set_option maxHeartbeats 1000000 in
theorem heldPlaceS_any (v : Value) (n : Nat) (m : Int) (w : World) (B : Nat) (ho : OwnP w B v (marksP m n)) (hn : n ≤ 2000000) (hm0 : 0 ≤ m) (hm1 : m ≤ 2000000) :
    Calls Try.prog 26 #[v, .int .i64 m] w fun e w' => e = .returned (.int .i64 (m + 2 * n)) ∧ w = w' := by
  obtain ⟨A, c, rfl⟩ := ho.shape0
  rw [marksP_len] at *
  have HO := Lib.hid ho
  clear ho
  go_enter Try.func26, Try.ntmps26
  go_wp2_with fail
  go_loop [1, 5] (fun q i => ∃ k : Nat, k ≤ n ∧ i = .int .i64 k ∧ q = .int .i64 (m + 2 * k)) (fun _ i => n - (intOf i).toNat)
  case atStart => exact ⟨0, Nat.zero_le _, rfl, by simp⟩
  case round =>
    obtain ⟨k, hk, rfl, rfl⟩ := hrel
    by_cases hlt : k < n
    · obtain ⟨g, q, e, hB, hg, hc⟩ := HO.out.cells (by rw [marksP_len]; omega)
      simp only [Value.slice.injEq] at e
      obtain ⟨rfl, -, -⟩ := e
      obtain ⟨a0, a1⟩ := hc k (by rw [marksP_len]; exact hlt)
      rw [nthP_marks hlt] at a0 a1
      simp only at a0 a1
      clear hc
      have e1 : (m + 2 * (k : Int) != m + 2 * (k : Int)) = false := by simp
      have e2 : (m + 2 * (k : Int) + 1 != m + 2 * (k : Int) + 1) = false := by simp
      go_wp2_with fail
      go_round
      case rel => exact ⟨k + 1, by omega, by go_num, by go_num⟩
      case measure => simp [intOf]; omega
    · have hkn : k = n := by omega
      have HK := Lib.hid hkn
      clear hkn
      go_wp2_with fail
      go_ret
      exact ⟨ret_int (by have := HK.out; omega), rfl⟩
end Go.Proofs.Ytffcjmnldmjocaa
