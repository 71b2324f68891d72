/-
  Contracts of chapter 14: a blank grid, a cell set, a copy.
-/
import Derived.Test.YtkipaefhnmfebaaToS
import Derived.Test.YtkipaefhnmfebaaBlk
namespace Go.Proofs.Ytkipaefhnmfebaa
set_option linter.unusedSimpArgs false
open Go.RowKit

theorem nth_rep {n k : Nat} {x : Int} (h : k < n) : nth (List.replicate n x) k = x := by
  rw [nth_lt (by simpa using h)]; simp
theorem Own.grown {w w' : World} {B g : Nat} {v : Value} {xs : List Int} (h : Own w B v xs) (hg : w.grownBy w' (some g)) (hB : g < B) : Own w' B v xs := by
  refine ⟨h.1, ?_⟩
  rcases h.2 with h' | ⟨b, cap, cur, rfl, hb, hh, hr⟩
  · exact .inl h'
  · exact .inr ⟨b, cap, cur, rfl, hb, (hg.block b (lt_of_block hh) (by simp; omega)).trans hh, hr⟩
set_option maxHeartbeats 2000000 in
theorem blank_any (R C P : Nat) (v : Int) (w : World) (hP : R * C = P) (hP2 : P ≤ 1000000) :
    Calls Try.prog 63 #[.int .i64 R, .int .i64 C, .int .i64 v] w fun e w' => ∃ u, e = .returned (.agg #[.int .i64 R, .int .i64 C, u]) ∧ Own w' w.heap.size u (List.replicate P v) ∧ Below w.heap.size w w' := by
  obtain ⟨i0, hi⟩ := info_own' info_i64s
  have HI := Lib.hid (And.intro i0.bytes.le_refl hi)
  have hPi : (R : Int) * (C : Int) = (P : Int) := by rw [← hP]; simp
  clear hi
  go_enter Try.func63, Try.ntmps63
  go_wp2_with (at_make; refine wpList_make_full (w.alloc (.cells #[.int .i64 0, .int .i64 0, .slice none 0 0] 41)) rfl _ _ 22 rfl (w.heap.size + 1) 2 i0 (.int .i64 0) 1 Try.underlying22 HI.out.2.1 HI.out.2.2.1 HI.out.2.2.2.1 .i64 .i64 P P P (by rfl) (by rfl) rfl rfl (by rw [HI.out.2.2.2.2]; omega) (by unfold maxLen; omega) (by simp) ?_; intro w1 hown1 hgrow1; have hs1 := hgrow1.size)
  have HO : Hid (Own w1 (w.heap.size + 1) (.slice (some ⟨w.heap.size + 1, 0, none⟩) P P) (List.replicate P 0)) := Lib.hid (by have := Own.made_zero hown1; simpa using this)
  have HB1 : Hid (Below (w.heap.size + 1) (w.alloc (.cells #[.int .i64 0, .int .i64 0, .slice none 0 0] 41)) w1) := Lib.hid ((Below.refl _ _).grown hgrow1 (by simp) (fun k hk => by cases hk))
  have HR0 : Hid (w1.heap[w.heap.size]? = some (.cells #[.int .i64 0, .int .i64 0, .slice none 0 0] 41 (0, 0))) := Lib.hid (blk_below (heap_alloc_new _ _) HB1.out (Nat.lt_succ_self _))
  have HW : Hid (Below w.heap.size w w1) := Lib.hid ((by go_grown : Below w.heap.size w (w.alloc (.cells #[.int .i64 0, .int .i64 0, .slice none 0 0] 41))).trans (HB1.out.mono (Nat.le_succ _)))
  simp only [World.size_alloc] at hs1
  have hg0 : w.heap.size + 1 < w1.heap.size := by
    have := HO.out.rows
    rcases Nat.eq_zero_or_pos P with h0 | h0
    · have h2 := hown1.2
      rcases h2 with ⟨h2, _⟩ | ⟨g, cap, cur, h2, _, hh, _⟩
      · simp at h2
      · simp at h2; have := lt_of_block hh; omega
    · have := (World.ownsRow.lt HO.out (w.heap.size + 1) rfl).2; exact this
  clear hown1 hgrow1 hs1
  have HG : Hid ((w1.alloc (.cells #[.int .i64 R, .int .i64 C, .slice (some ⟨w.heap.size + 1, 0, none⟩) P P] 41)).heap[w1.heap.size]? = some (.cells #[.int .i64 R, .int .i64 C, .slice (some ⟨w.heap.size + 1, 0, none⟩) P P] 41 (0, 0))) := Lib.hid (heap_alloc_new _ _)
  go_loopw [19] (fun i wr => ∃ k : Nat, k ≤ P ∧ i = .int .i64 k ∧ Hid (Own wr (w.heap.size + 1) (.slice (some ⟨w.heap.size + 1, 0, none⟩) P P) ((List.replicate P v).take k ++ (List.replicate P (0 : Int)).drop k)) ∧
      Hid ((w1.alloc (.cells #[.int .i64 R, .int .i64 C, .slice (some ⟨w.heap.size + 1, 0, none⟩) P P] 41)).grownBy wr (some (w.heap.size + 1))))
    (fun i _ => P - (intOf i).toNat)
  case atStart => exact ⟨0, Nat.zero_le _, rfl, Lib.hid (by have := HO.out.keep (w' := w1.alloc (.cells #[.int .i64 R, .int .i64 C, .slice (some ⟨w.heap.size + 1, 0, none⟩) P P] 41)) (by go_grown); simpa using this), World.grownBy.refl _ _⟩
  case round =>
    obtain ⟨k, hk, rfl, hown, hgr⟩ := hrel
    have hlm : ((List.replicate P v).take k ++ (List.replicate P (0 : Int)).drop k).length = P := by simp; omega
    have HLM := Lib.hid hlm
    clear hlm
    have hgb : wr.heap[w1.heap.size]? = some (.cells #[.int .i64 R, .int .i64 C, .slice (some ⟨w.heap.size + 1, 0, none⟩) P P] 41 (0, 0)) := (hgr.out.block _ (by simp) (by simp; omega)).trans HG.out
    obtain ⟨z0, z1, z2, -⟩ := blk3 hgb
    have HGB := Lib.hid hgb
    clear hgb
    by_cases hlt : k < P
    · obtain ⟨g', c', e', hB', hg', hc', hf'⟩ := hown.out.row (by rw [HLM.out]; omega)
      obtain ⟨rfl, rfl⟩ : w.heap.size + 1 = g' ∧ P = c' := by
        simp only [Value.slice.injEq, Option.some.injEq, Addr.mk.injEq, and_true] at e'
        exact ⟨e'.1, e'.2.2⟩
      have hdk := hc' k (by rw [HLM.out]; exact hlt)
      have hfk := hf' k
      have hmix := set_mix (xs := List.replicate P (0 : Int)) (ys := List.replicate P v) (k := k) (by simp) (by simpa using hlt)
      rw [nth_rep hlt] at hmix
      have HM := Lib.hid hmix
      clear hc' hf' e' hB' hmix
      go_wp2_with fail
      go_roundw
      case rel => exact ⟨k + 1, by omega, by go_num, Lib.hid (by rw [← HM.out]; exact Own.setn HLM.out hown.out), Lib.hid (grown_set hgr.out _)⟩
      case measure => simp [intOf]; omega
    · have hkn : k = P := by omega
      have hfin := hown.out
      rw [hkn, List.take_of_length_le (by simp), List.drop_of_length_le (by simp), List.append_nil] at hfin
      have HF := Lib.hid hfin
      have hR : wr.heap[w.heap.size]? = some (.cells #[.int .i64 0, .int .i64 0, .slice none 0 0] 41 (0, 0)) := (hgr.out.block _ (by simp; omega) (by simp)).trans (blk_alloc HR0.out (by omega))
      obtain ⟨y0, y1, y2, yf⟩ := blk3 hR
      obtain ⟨s0, s1, s2⟩ := res3 hR (.int .i64 (R : Int)) (.int .i64 (C : Int)) (.slice (some ⟨w.heap.size + 1, 0, none⟩) P P)
      have HBW : Hid (Below w.heap.size w wr) := Lib.hid ((HW.out.alloc (by omega) _).grown hgr.out (by simp; omega) (fun k hk => by cases hk; omega))
      clear hR hfin
      go_wp2_with fail
      (try simp only [Exit.inBlock, Exit.then]); refine bodyPost_ret (by simp [results, Try.results63, go_sem, s0, s1, s2]; try rfl) rfl ?_
      exact ⟨_, rfl, ((((HF.out.setLt (Nat.lt_succ_self _) _).setLt (Nat.lt_succ_self _) _).setLt (Nat.lt_succ_self _) _)).more (Nat.le_succ _), ((HBW.out.setCell (Nat.le_refl _) _).setCell (Nat.le_refl _) _).setCell (Nat.le_refl _) _⟩
end Go.Proofs.Ytkipaefhnmfebaa
