/-
  Contracts of chapter 14: the reference's grid of the fixed cells.
-/
import Derived.Test.YtkipaefhnmfebaaC14G
import Derived.Test.YtkipaefhnmfebaaC01A
namespace Go.Proofs.Ytkipaefhnmfebaa
set_option linter.unusedSimpArgs false
open Go.RowKit

set_option maxHeartbeats 2000000 in
theorem l14Grid_any (N : Nat) (w : World) (hN : 17 ≤ N ∧ N ≤ 41 ∧ N % 4 = 1) :
    Calls Try.prog 81 #[.int .i64 N] w fun e w' => ∃ v, e = .returned (.agg #[.int .i64 N, .int .i64 N, v]) ∧ Own w' w.heap.size v (fixL N) ∧ Below w.heap.size w w' := by
  obtain ⟨i0, hi⟩ := info_own info_i64s
  have HI := Lib.hid (And.intro i0.bytes.le_refl hi)
  clear hi
  have HN := Lib.hid hN
  have hN1 := hN.1
  have hN2 := hN.2.1
  clear hN
  go_enter Try.func81, Try.ntmps81
  go_wp2_with fail
  have HW : Hid (Below w.heap.size w (w.alloc (.cells #[.int .i64 0, .int .i64 0, .slice none 0 0] 41))) := Lib.hid (by go_grown)
  have HR0 : Hid ((w.alloc (.cells #[.int .i64 0, .int .i64 0, .slice none 0 0] 41)).heap[w.heap.size]? = some (.cells #[.int .i64 0, .int .i64 0, .slice none 0 0] 41 (0, 0))) := Lib.hid (heap_alloc_new _ _)
  have HE : Hid (Own ((w.alloc (.cells #[.int .i64 0, .int .i64 0, .slice none 0 0] 41)).alloc (.cells #[] 2)) (w.heap.size + 1) (.slice (some ⟨w.heap.size + 1, 0, none⟩) 0 0) []) := by
    have := World.ownsRow_made (e := 2) (size := 1) (base := w.heap.size + 1) (w.alloc (.cells #[.int .i64 0, .int .i64 0, .slice none 0 0] 41)) #[] 0 (by simp) (by unfold maxLen; omega) rfl
    refine Lib.hid ?_
    unfold Own
    simpa using this
  go_loopw [3, 4] (fun out row wr => ∃ k : Nat, k ≤ N ∧ row = .int .i64 k ∧ Hid (Own wr (w.heap.size + 1) out ((fixL N).take (k * N))) ∧ Hid (Below (w.heap.size + 1) (w.alloc (.cells #[.int .i64 0, .int .i64 0, .slice none 0 0] 41)) wr))
    (fun _ row _ => N - (intOf row).toNat)
  case atStart => exact ⟨0, Nat.zero_le _, rfl, Lib.hid (by simpa using HE.out), Lib.hid (by go_grown)⟩
  case round =>
    obtain ⟨k, hk, rfl, hown0, hbel0⟩ := hrel
    by_cases hlt : k < N
    · go_wp2_with fail
      go_loopw [3, 5] (fun out col wr => ∃ j : Nat, j ≤ N ∧ col = .int .i64 j ∧ Hid (Own wr (w.heap.size + 1) out ((fixL N).take (k * N + j))) ∧ Hid (Below (w.heap.size + 1) (w.alloc (.cells #[.int .i64 0, .int .i64 0, .slice none 0 0] 41)) wr))
        (fun _ col _ => N - (intOf col).toNat)
      case atStart => exact ⟨0, Nat.zero_le _, rfl, hown0, hbel0⟩
      case round =>
        obtain ⟨j, hj, rfl, hown, hbel⟩ := hrel
        by_cases hlt2 : j < N
        · have hsz := hbel.out.size
          simp only [World.size_alloc] at hsz
          have hBw : Below w.heap.size w wr := HW.out.trans (hbel.out.mono (Nat.le_succ _))
          have hst := fixL_nth hlt hlt2
          have hlen : k * N + j < (fixL N).length := by rw [fixL_len]; exact cell_lt hlt hlt2
          have htk := take_nth hlen
          rw [hst] at htk
          have HT := Lib.hid htk
          have HL : Hid (((fixL N).take (k * N + j)).length ≤ 1681) := Lib.hid (by
            have := Nat.mul_le_mul hN2 hN2
            rw [List.length_take, fixL_len]; omega)
          clear hst hlen htk
          have HF := Lib.hid (fun w => l14Fixed_any (N : Int) (k : Int) (j : Int) w (by omega) (by omega) (by omega))
          generalize fixV (N : Int) (k : Int) (j : Int) = V at HF HT
          go_wp2_with fail
          (go_at_call 109; with_reducible refine (HF.out _).mono ?_; rintro e1 w1 ⟨rfl, hb1⟩; obtain ⟨hc1, hf1⟩ := bcell hb1; have hB1 : Below w.heap.size w w1 := (below_then (by first | (go_grown; done) | (repeat (first | (with_reducible assumption) | (with_reducible exact Below.refl _ _) | (with_reducible refine below_drewN' ?_ _) | (with_reducible refine Below.drew ?_) | ((with_reducible refine Below.alloc ?_ ?_ _); rotate_left; focus (first | (simp; done) | (simp; omega) | omega)) | ((with_reducible refine Below.setCell ?_ ?_ _); rotate_left; focus (first | (simp; done) | (simp; omega) | omega))))) (by first | omega | (simp; done) | (simp; omega)) hb1); have hz1a : w.heap.size < w1.heap.size := (by have := hb1.size; first | omega | (simp at this; omega)))
          have ho1 := Lib.hid (hown.out.keep hb1)
          have hs1 : Hid (w.heap.size + 1 ≤ w1.heap.size) := Lib.hid (by have := hb1.size; omega)
          have hBe : Hid (Below (w.heap.size + 1) (w.alloc (.cells #[.int .i64 0, .int .i64 0, .slice none 0 0] 41)) w1) := Lib.hid (hbel.out.trans (hb1.mono (by omega)))
          clear hc1 hf1 hb1 hB1 hBw
          have hLL := HL.out
          go_wp2_with (at_builtin; refine wpList_append_own _ rfl _ _ 22 rfl (w.heap.size + 1) 2 i0 (.int .i64 0) 1 8 Try.underlying22 HI.out.2.1 HI.out.2.2.1 HI.out.2.2.2.1 HI.out.2.2.2.2 rfl (by decide) _ _ _ rfl (Own.alloc ho1.out _) ⟨w1.heap.size, 0, none⟩ 1 1 [.int .i64 (V)] rfl rfl (cell_one_new _ _ _) (one_ok _) (own_max ho1.out (by omega)) (own_bytes ho1.out (by omega)) (own_base hs1.out) ?_; intro va wa howna hgrowa _; have hoa := Lib.hid (Own.snoc howna); have hga := Lib.hid hgrowa; clear howna hgrowa)
          go_roundw
          case rel => exact ⟨j + 1, by omega, by go_num, Lib.hid (by have := hoa.out; rw [← HT.out] at this; exact this), Lib.hid (Own.below_grown ho1.out hBe.out hs1.out hga.out)⟩
          case measure => simp [intOf]; omega
        · have hjn : j = N := by omega
          subst hjn
          go_wp2_with fail
          go_roundw
          case rel => exact ⟨k + 1, by omega, by go_num, Lib.hid (by have := hown.out; rwa [show k * j + j = (k + 1) * j from by rw [Nat.add_mul, Nat.one_mul]] at this), hbel⟩
          case measure => simp [intOf]; omega
    · have hkn : k = N := by omega
      subst hkn
      have hfin := hown0.out
      rw [List.take_of_length_le (by rw [fixL_len]; exact Nat.le_refl _)] at hfin
      obtain ⟨A, c, hv, hr⟩ := hfin.shape
      subst hv
      have HF := Lib.hid hfin
      clear hfin hr
      have hR : wr.heap[w.heap.size]? = some (.cells #[.int .i64 0, .int .i64 0, .slice none 0 0] 41 (0, 0)) := blk_below HR0.out hbel0.out (Nat.lt_succ_self _)
      obtain ⟨z0, z1, z2, zf⟩ := blk3 hR
      obtain ⟨s0, s1, s2⟩ := res3 hR (.int .i64 (k : Int)) (.int .i64 (k : Int)) (.slice A (fixL k).length c)
      have HRR := Lib.hid hR
      clear hR
      have HBW : Hid (Below w.heap.size w wr) := Lib.hid (HW.out.trans (hbel0.out.mono (Nat.le_succ _)))
      go_wp2_with fail
      (try simp only [Exit.inBlock, Exit.then]); refine bodyPost_ret (by simp [results, Try.results81, go_sem, s0, s1, s2]; try rfl) rfl ?_
      exact ⟨_, rfl, ((((HF.out.setLt (Nat.lt_succ_self _) _).setLt (Nat.lt_succ_self _) _).setLt (Nat.lt_succ_self _) _)).more (Nat.le_succ _), ((HBW.out.setCell (Nat.le_refl _) _).setCell (Nat.le_refl _) _).setCell (Nat.le_refl _) _⟩
end Go.Proofs.Ytkipaefhnmfebaa
