/-
  What the laws of layouts draw: families, sizes, levels. Printed by gen/dly.py.
-/
import Derived.Test.YtbgcbjfimjfbpaaC02I
import Derived.Test.YtbgcbjfimjfbpaaDrB
import Derived.Test.YtbgcbjfimjfbpaaC13F
import Derived.Test.YtbgcbjfimjfbpaaArgF
import Derived.Test.YtbgcbjfimjfbpaaArgB
import Derived.Deep.RegionHeld3
import Derived.Deep.RegionWith
import Derived.Deep.DeepCutAuto
namespace Go.Proofs.Ytbgcbjfimjfbpaa
set_option linter.unusedSimpArgs false
open Go.RowKit

def FldT (u : Value) : Prop := ∃ p k g : Int, u = .agg #[.int .i64 p, .int .i64 k, .int .i64 g]
def FldC (u : Value) : Prop := ∃ p k g c : Int, u = .tuple #[.agg #[.int .i64 p, .int .i64 k, .int .i64 g], .int .i64 c]
theorem prime_two {N : Nat} (h : primeB N = true) : ∀ p, 3 ≤ p → p ≤ 8 → N ≠ 2 ^ p := by
  intro p h1 h2 e
  subst e
  rcases (show p = 3 ∨ p = 4 ∨ p = 5 ∨ p = 6 ∨ p = 7 ∨ p = 8 by omega) with rfl | rfl | rfl | rfl | rfl | rfl <;> (revert h; decide +kernel)
set_option maxHeartbeats 4000000 in
theorem sFieldOf_some (N : Nat) (w : World) (hN : 2 ≤ N) (hN2 : N ≤ 1021) :
    Calls Try.prog 68 #[.int .i64 N] w fun e w' => ∃ u, e = .returned u ∧ FldC u ∧ Below w.heap.size w w' := by
  have HPR := Lib.hid (fun w => l02Prime_any N w hN (by omega))
  cases h3 : inR (N : Int) 3 1021
  · go_enter Try.func68, Try.ntmps68
    have HB0 : Hid (Below w.heap.size w (w.alloc (.cells #[.int .i64 0, .int .i64 0, .int .i64 0] 28))) := Lib.hid ((Below.refl _ _).alloc (Nat.le_refl _) _)
    have HZ0 : Hid ((w.alloc (.cells #[.int .i64 0, .int .i64 0, .int .i64 0] 28)).heap[w.heap.size]? = some (.cells #[.int .i64 0, .int .i64 0, .int .i64 0] 28 (0, 0))) := Lib.hid (heap_alloc_new _ _)
    go_wp2_with first | (go_at_call 47; refine (l01In_any _ _ _ _).mono ?_; rintro e w' ⟨rfl, rfl⟩) | (go_at_call 97; refine (HPR.out _).mono ?_; rintro e w' ⟨rfl, rfl⟩)
    go_loopw [6] (fun pv wr => ∃ p : Nat, 3 ≤ p ∧ p ≤ 9 ∧ pv = .int .i64 p ∧ Hid (Below w.heap.size w wr) ∧ Hid (wr.heap[w.heap.size]? = some (.cells #[.int .i64 0, .int .i64 0, .int .i64 0] 28 (0, 0)))) (fun pv _ => 9 - (intOf pv).toNat)
    case atStart => exact ⟨3, by omega, by omega, rfl, HB0, HZ0⟩
    case round =>
      rename World => wo
      obtain ⟨p, h1, h2, rfl, hb, hz⟩ := hrel
      have hzl := lt_of_block hz.out
      by_cases hp : p ≤ 8
      · have hpi : (p : Int) ≤ 8 := by omega
        obtain ⟨M, hM⟩ : ∃ M : Nat, 2 ^ p = M := ⟨_, rfl⟩
        have hsh : IntKind.i64.wrap (2 ^ min (IntKind.u64.wrap (p : Int)).toNat 64) = (M : Int) := by
          have hMb : 2 ^ p ≤ 2 ^ 8 := Nat.pow_le_pow_right (by decide) hp
          rw [show IntKind.u64.wrap (p : Int) = (p : Int) by rw [IntKind.wrap_u64]; omega, show min ((p : Int)).toNat 64 = p by omega, ← hM]
          have e3 : ((2 ^ p : Nat) : Int) = (2 : Int) ^ p := by simp
          rw [← e3, IntKind.wrap_i64]; omega
        have hsh2 : wrap64 (2 ^ p) = (M : Int) := by
          have hMb : 2 ^ p ≤ 2 ^ 8 := Nat.pow_le_pow_right (by decide) hp
          have e3 : ((2 ^ p : Nat) : Int) = (2 : Int) ^ p := by simp
          rw [hM] at hMb
          rw [← e3, hM]
          unfold wrap64
          omega
        by_cases he : N = M
        · subst he
          go_wp2_with fail
          (first | rw [hsh2] | skip)
          clear hsh hsh2
          go_loopw [7] (fun qv wr => ∃ q : Nat, N ≤ q ∧ q ≤ 2 * N ∧ qv = .int .i64 q ∧ Hid (Below w.heap.size w wr) ∧ Hid (wr.heap[w.heap.size]? = some (.cells #[.int .i64 0, .int .i64 0, .int .i64 0] 28 (0, 0)))) (fun qv _ => 2 * N - (intOf qv).toNat)
          case atStart => exact ⟨N, Nat.le_refl _, by omega, rfl, hb, hz⟩
          case round =>
            clear hb hz hzl
            rename World => wq
            obtain ⟨q, hq1, hq2, rfl, hb, hz⟩ := hrel
            have hzl := lt_of_block hz.out
            by_cases hlt : q < 2 * N
            · have hli : (q : Int) < 2 * (N : Int) := by omega
              have HIF := Lib.hid (fun w => sIsField_any 2 p q w)
              generalize fieldB 2 p q = bb at HIF
              go_wp2_with fail
              go_at_call 66
              with_reducible refine (HIF.out _).mono ?_
              rintro e6 w6 ⟨rfl, hb6⟩
              have HB6 := Lib.hid ((hb.out.alloc hb.out.size _).trans (hb6.mono (by have := hb.out.size; simp; omega)))
              have HZ6 := Lib.hid (blk_below (blk_alloc (u := .cells #[.int .i64 2, .int .i64 (p : Int), .int .i64 (q : Int)] 28) hz.out hzl) hb6 (by simp; omega))
              have HF6 := Lib.hid (blk_below (heap_alloc_new wq (.cells #[.int .i64 2, .int .i64 (p : Int), .int .i64 (q : Int)] 28)) hb6 (by simp))
              have hzw6 : w.heap.size < w6.heap.size := lt_of_block HZ6.out
              have hzn6 : wq.heap.size < w6.heap.size := lt_of_block HF6.out
              clear hb6

              obtain ⟨x0, x1, x2, -⟩ := blk3 HF6.out
              cases bb
              · go_wp2_with fail
                go_roundw
                case rel => exact ⟨q + 1, by omega, by omega, by go_num, HB6, HZ6⟩
                case measure => simp [intOf]; omega
              · obtain ⟨z0, z1, z2, zf⟩ := blk3 HZ6.out
                obtain ⟨s0, s1, s2⟩ := res3 HZ6.out (.int .i64 2) (.int .i64 (p : Int)) (.int .i64 (q : Int))
                go_wp2_with fail
                (try simp only [Exit.inBlock, Exit.then]); refine bodyPost_ret (by simp [results, Try.results68, go_sem, s0, s1, s2]; try rfl) rfl ?_
                exact ⟨_, rfl, ⟨_, _, _, _, rfl⟩, ((HB6.out.setCell (p := ⟨w.heap.size, 0, none⟩) (Nat.le_refl _) _).setCell (p := ⟨w.heap.size, 1, none⟩) (Nat.le_refl _) _).setCell (p := ⟨w.heap.size, 2, none⟩) (Nat.le_refl _) _⟩
            · obtain rfl : q = 2 * N := by omega
              have hli : ¬ (((2 * N : Nat) : Int) < 2 * (N : Int)) := by omega
              go_wp2_with fail
              go_roundw
              case rel => exact ⟨p + 1, by omega, by omega, by go_num, hb, hz⟩
              case measure => simp [intOf]; omega
        · have he' : ((N : Int) != (M : Int)) = true := by simp; omega
          clear hM
          go_wp2_with fail
          go_roundw
          case rel => exact ⟨p + 1, by omega, by omega, by go_num, hb, hz⟩
          case measure => simp [intOf]; omega
      · obtain rfl : p = 9 := by omega
        have hpi : ¬ (((9 : Nat) : Int) ≤ 8) := by omega
        obtain ⟨z0, z1, z2, zf⟩ := blk3 hz.out
        obtain ⟨s0, s1, s2⟩ := res3 hz.out (.int .i64 0) (.int .i64 0) (.int .i64 0)
        go_wp2_with fail
        (try simp only [Exit.inBlock, Exit.then]); refine bodyPost_ret (by simp [results, Try.results68, go_sem, s0, s1, s2]; try rfl) rfl ?_
        exact ⟨_, rfl, ⟨_, _, _, _, rfl⟩, ((hb.out.setCell (p := ⟨w.heap.size, 0, none⟩) (Nat.le_refl _) _).setCell (p := ⟨w.heap.size, 1, none⟩) (Nat.le_refl _) _).setCell (p := ⟨w.heap.size, 2, none⟩) (Nat.le_refl _) _⟩
  have h3b := inR_true h3
  cases hpr : primeB N
  · rw [hpr] at HPR
    go_enter Try.func68, Try.ntmps68
    have HB0 : Hid (Below w.heap.size w (w.alloc (.cells #[.int .i64 0, .int .i64 0, .int .i64 0] 28))) := Lib.hid ((Below.refl _ _).alloc (Nat.le_refl _) _)
    have HZ0 : Hid ((w.alloc (.cells #[.int .i64 0, .int .i64 0, .int .i64 0] 28)).heap[w.heap.size]? = some (.cells #[.int .i64 0, .int .i64 0, .int .i64 0] 28 (0, 0))) := Lib.hid (heap_alloc_new _ _)
    go_wp2_with first | (go_at_call 47; refine (l01In_any _ _ _ _).mono ?_; rintro e w' ⟨rfl, rfl⟩) | (go_at_call 97; refine (HPR.out _).mono ?_; rintro e w' ⟨rfl, rfl⟩)
    go_loopw [6] (fun pv wr => ∃ p : Nat, 3 ≤ p ∧ p ≤ 9 ∧ pv = .int .i64 p ∧ Hid (Below w.heap.size w wr) ∧ Hid (wr.heap[w.heap.size]? = some (.cells #[.int .i64 0, .int .i64 0, .int .i64 0] 28 (0, 0)))) (fun pv _ => 9 - (intOf pv).toNat)
    case atStart => exact ⟨3, by omega, by omega, rfl, HB0, HZ0⟩
    case round =>
      rename World => wo
      obtain ⟨p, h1, h2, rfl, hb, hz⟩ := hrel
      have hzl := lt_of_block hz.out
      by_cases hp : p ≤ 8
      · have hpi : (p : Int) ≤ 8 := by omega
        obtain ⟨M, hM⟩ : ∃ M : Nat, 2 ^ p = M := ⟨_, rfl⟩
        have hsh : IntKind.i64.wrap (2 ^ min (IntKind.u64.wrap (p : Int)).toNat 64) = (M : Int) := by
          have hMb : 2 ^ p ≤ 2 ^ 8 := Nat.pow_le_pow_right (by decide) hp
          rw [show IntKind.u64.wrap (p : Int) = (p : Int) by rw [IntKind.wrap_u64]; omega, show min ((p : Int)).toNat 64 = p by omega, ← hM]
          have e3 : ((2 ^ p : Nat) : Int) = (2 : Int) ^ p := by simp
          rw [← e3, IntKind.wrap_i64]; omega
        have hsh2 : wrap64 (2 ^ p) = (M : Int) := by
          have hMb : 2 ^ p ≤ 2 ^ 8 := Nat.pow_le_pow_right (by decide) hp
          have e3 : ((2 ^ p : Nat) : Int) = (2 : Int) ^ p := by simp
          rw [hM] at hMb
          rw [← e3, hM]
          unfold wrap64
          omega
        by_cases he : N = M
        · subst he
          go_wp2_with fail
          (first | rw [hsh2] | skip)
          clear hsh hsh2
          go_loopw [7] (fun qv wr => ∃ q : Nat, N ≤ q ∧ q ≤ 2 * N ∧ qv = .int .i64 q ∧ Hid (Below w.heap.size w wr) ∧ Hid (wr.heap[w.heap.size]? = some (.cells #[.int .i64 0, .int .i64 0, .int .i64 0] 28 (0, 0)))) (fun qv _ => 2 * N - (intOf qv).toNat)
          case atStart => exact ⟨N, Nat.le_refl _, by omega, rfl, hb, hz⟩
          case round =>
            clear hb hz hzl
            rename World => wq
            obtain ⟨q, hq1, hq2, rfl, hb, hz⟩ := hrel
            have hzl := lt_of_block hz.out
            by_cases hlt : q < 2 * N
            · have hli : (q : Int) < 2 * (N : Int) := by omega
              have HIF := Lib.hid (fun w => sIsField_any 2 p q w)
              generalize fieldB 2 p q = bb at HIF
              go_wp2_with fail
              go_at_call 66
              with_reducible refine (HIF.out _).mono ?_
              rintro e6 w6 ⟨rfl, hb6⟩
              have HB6 := Lib.hid ((hb.out.alloc hb.out.size _).trans (hb6.mono (by have := hb.out.size; simp; omega)))
              have HZ6 := Lib.hid (blk_below (blk_alloc (u := .cells #[.int .i64 2, .int .i64 (p : Int), .int .i64 (q : Int)] 28) hz.out hzl) hb6 (by simp; omega))
              have HF6 := Lib.hid (blk_below (heap_alloc_new wq (.cells #[.int .i64 2, .int .i64 (p : Int), .int .i64 (q : Int)] 28)) hb6 (by simp))
              have hzw6 : w.heap.size < w6.heap.size := lt_of_block HZ6.out
              have hzn6 : wq.heap.size < w6.heap.size := lt_of_block HF6.out
              clear hb6

              obtain ⟨x0, x1, x2, -⟩ := blk3 HF6.out
              cases bb
              · go_wp2_with fail
                go_roundw
                case rel => exact ⟨q + 1, by omega, by omega, by go_num, HB6, HZ6⟩
                case measure => simp [intOf]; omega
              · obtain ⟨z0, z1, z2, zf⟩ := blk3 HZ6.out
                obtain ⟨s0, s1, s2⟩ := res3 HZ6.out (.int .i64 2) (.int .i64 (p : Int)) (.int .i64 (q : Int))
                go_wp2_with fail
                (try simp only [Exit.inBlock, Exit.then]); refine bodyPost_ret (by simp [results, Try.results68, go_sem, s0, s1, s2]; try rfl) rfl ?_
                exact ⟨_, rfl, ⟨_, _, _, _, rfl⟩, ((HB6.out.setCell (p := ⟨w.heap.size, 0, none⟩) (Nat.le_refl _) _).setCell (p := ⟨w.heap.size, 1, none⟩) (Nat.le_refl _) _).setCell (p := ⟨w.heap.size, 2, none⟩) (Nat.le_refl _) _⟩
            · obtain rfl : q = 2 * N := by omega
              have hli : ¬ (((2 * N : Nat) : Int) < 2 * (N : Int)) := by omega
              go_wp2_with fail
              go_roundw
              case rel => exact ⟨p + 1, by omega, by omega, by go_num, hb, hz⟩
              case measure => simp [intOf]; omega
        · have he' : ((N : Int) != (M : Int)) = true := by simp; omega
          clear hM
          go_wp2_with fail
          go_roundw
          case rel => exact ⟨p + 1, by omega, by omega, by go_num, hb, hz⟩
          case measure => simp [intOf]; omega
      · obtain rfl : p = 9 := by omega
        have hpi : ¬ (((9 : Nat) : Int) ≤ 8) := by omega
        obtain ⟨z0, z1, z2, zf⟩ := blk3 hz.out
        obtain ⟨s0, s1, s2⟩ := res3 hz.out (.int .i64 0) (.int .i64 0) (.int .i64 0)
        go_wp2_with fail
        (try simp only [Exit.inBlock, Exit.then]); refine bodyPost_ret (by simp [results, Try.results68, go_sem, s0, s1, s2]; try rfl) rfl ?_
        exact ⟨_, rfl, ⟨_, _, _, _, rfl⟩, ((hb.out.setCell (p := ⟨w.heap.size, 0, none⟩) (Nat.le_refl _) _).setCell (p := ⟨w.heap.size, 1, none⟩) (Nat.le_refl _) _).setCell (p := ⟨w.heap.size, 2, none⟩) (Nat.le_refl _) _⟩
  · rw [hpr] at HPR
    go_enter Try.func68, Try.ntmps68
    have HB0 : Hid (Below w.heap.size w (w.alloc (.cells #[.int .i64 0, .int .i64 0, .int .i64 0] 28))) := Lib.hid ((Below.refl _ _).alloc (Nat.le_refl _) _)
    have HZ0 : Hid ((w.alloc (.cells #[.int .i64 0, .int .i64 0, .int .i64 0] 28)).heap[w.heap.size]? = some (.cells #[.int .i64 0, .int .i64 0, .int .i64 0] 28 (0, 0))) := Lib.hid (heap_alloc_new _ _)
    go_wp2_with first | (go_at_call 47; refine (l01In_any _ _ _ _).mono ?_; rintro e w' ⟨rfl, rfl⟩) | (go_at_call 97; refine (HPR.out _).mono ?_; rintro e w' ⟨rfl, rfl⟩)
    go_loopw [4] (fun gv wr => ∃ k : Nat, 1 ≤ k ∧ k ≤ N ∧ gv = .int .i64 k ∧ Hid (Below w.heap.size w wr) ∧ Hid (wr.heap[w.heap.size]? = some (.cells #[.int .i64 0, .int .i64 0, .int .i64 0] 28 (0, 0)))) (fun gv _ => N - (intOf gv).toNat)
    case atStart => exact ⟨1, by omega, by omega, rfl, HB0, HZ0⟩
    case round =>
      clear HB0 HZ0
      rename World => wg
      obtain ⟨k, hk1, hk2, rfl, hb, hz⟩ := hrel
      have hzl := lt_of_block hz.out
      by_cases hlt : k < N
      · have hli : (k : Int) < (N : Int) := by omega
        have HIF := Lib.hid (fun w => l02Runs_one N k k w (by omega) hN2 hlt)
        generalize fullB (mulT N k) N = bb at HIF
        go_wp2_with fail
        go_at_call 98
        with_reducible refine (HIF.out _).mono ?_
        rintro e6 w6 ⟨rfl, hb6⟩
        have HB6 := Lib.hid ((hb.out.alloc hb.out.size _).trans (hb6.mono (by have := hb.out.size; simp; omega)))
        have HZ6 := Lib.hid (blk_below (blk_alloc (u := .cells #[.int .i64 (N : Int), .int .i64 1, .int .i64 (k : Int)] 28) hz.out hzl) hb6 (by simp; omega))
        have HF6 := Lib.hid (blk_below (heap_alloc_new wg (.cells #[.int .i64 (N : Int), .int .i64 1, .int .i64 (k : Int)] 28)) hb6 (by simp))
        have hzw6 : w.heap.size < w6.heap.size := lt_of_block HZ6.out
        have hzn6 : wg.heap.size < w6.heap.size := lt_of_block HF6.out
        clear hb6

        obtain ⟨x0, x1, x2, -⟩ := blk3 HF6.out
        cases bb
        · go_wp2_with fail
          go_roundw
          case rel => exact ⟨k + 1, by omega, by omega, by go_num, HB6, HZ6⟩
          case measure => simp [intOf]; omega
        · obtain ⟨z0, z1, z2, zf⟩ := blk3 HZ6.out
          obtain ⟨s0, s1, s2⟩ := res3 HZ6.out (.int .i64 (N : Int)) (.int .i64 1) (.int .i64 (k : Int))
          go_wp2_with fail
          (try simp only [Exit.inBlock, Exit.then]); refine bodyPost_ret (by simp [results, Try.results68, go_sem, s0, s1, s2]; try rfl) rfl ?_
          exact ⟨_, rfl, ⟨_, _, _, _, rfl⟩, ((HB6.out.setCell (p := ⟨w.heap.size, 0, none⟩) (Nat.le_refl _) _).setCell (p := ⟨w.heap.size, 1, none⟩) (Nat.le_refl _) _).setCell (p := ⟨w.heap.size, 2, none⟩) (Nat.le_refl _) _⟩
      · obtain ⟨k', hk'⟩ : ∃ k', k = k' ∧ k' = N := ⟨k, rfl, by omega⟩
        have hli : ¬ ((k : Int) < (N : Int)) := by omega
        have HB1 := hb
        have HZ1 := hz
        clear hb hz hzl
        go_wp2_with fail
        go_loopw [6] (fun pv wr => ∃ p : Nat, 3 ≤ p ∧ p ≤ 9 ∧ pv = .int .i64 p ∧ Hid (Below w.heap.size w wr) ∧ Hid (wr.heap[w.heap.size]? = some (.cells #[.int .i64 0, .int .i64 0, .int .i64 0] 28 (0, 0)))) (fun pv _ => 9 - (intOf pv).toNat)
        case atStart => exact ⟨3, by omega, by omega, rfl, HB1, HZ1⟩
        case round =>
          rename World => wo
          obtain ⟨p, h1, h2, rfl, hb, hz⟩ := hrel
          have hzl := lt_of_block hz.out
          by_cases hp : p ≤ 8
          · have hpi : (p : Int) ≤ 8 := by omega
            obtain ⟨M, hM⟩ : ∃ M : Nat, 2 ^ p = M := ⟨_, rfl⟩
            have hsh : IntKind.i64.wrap (2 ^ min (IntKind.u64.wrap (p : Int)).toNat 64) = (M : Int) := by
              have hMb : 2 ^ p ≤ 2 ^ 8 := Nat.pow_le_pow_right (by decide) hp
              rw [show IntKind.u64.wrap (p : Int) = (p : Int) by rw [IntKind.wrap_u64]; omega, show min ((p : Int)).toNat 64 = p by omega, ← hM]
              have e3 : ((2 ^ p : Nat) : Int) = (2 : Int) ^ p := by simp
              rw [← e3, IntKind.wrap_i64]; omega
            have hsh2 : wrap64 (2 ^ p) = (M : Int) := by
              have hMb : 2 ^ p ≤ 2 ^ 8 := Nat.pow_le_pow_right (by decide) hp
              have e3 : ((2 ^ p : Nat) : Int) = (2 : Int) ^ p := by simp
              rw [hM] at hMb
              rw [← e3, hM]
              unfold wrap64
              omega
            by_cases he : N = M
            · exact absurd (he.trans hM.symm) (prime_two hpr p h1 hp)
            · have he' : ((N : Int) != (M : Int)) = true := by simp; omega
              clear hM
              go_wp2_with fail
              go_roundw
              case rel => exact ⟨p + 1, by omega, by omega, by go_num, hb, hz⟩
              case measure => simp [intOf]; omega
          · obtain rfl : p = 9 := by omega
            have hpi : ¬ (((9 : Nat) : Int) ≤ 8) := by omega
            obtain ⟨z0, z1, z2, zf⟩ := blk3 hz.out
            obtain ⟨s0, s1, s2⟩ := res3 hz.out (.int .i64 0) (.int .i64 0) (.int .i64 0)
            go_wp2_with fail
            (try simp only [Exit.inBlock, Exit.then]); refine bodyPost_ret (by simp [results, Try.results68, go_sem, s0, s1, s2]; try rfl) rfl ?_
            exact ⟨_, rfl, ⟨_, _, _, _, rfl⟩, ((hb.out.setCell (p := ⟨w.heap.size, 0, none⟩) (Nat.le_refl _) _).setCell (p := ⟨w.heap.size, 1, none⟩) (Nat.le_refl _) _).setCell (p := ⟨w.heap.size, 2, none⟩) (Nat.le_refl _) _⟩
end Go.Proofs.Ytbgcbjfimjfbpaa
namespace Go.Proofs.Ytbgcbjfimjfbpaa
set_option linter.unusedSimpArgs false
open Go.RowKit

/-- A struct in a box of its own, the result's box beside it, and what draws keep. -/
structure FlP (P : SP) (w : World) (g : Nat) (cs zs : Array Value) (t : Nat) (W : World) : Prop where
  bx : BX P w.heap.size w W
  inv : P.I W
  lb : P.b < w.heap.size
  l0 : w.heap.size < g
  l1 : g < W.heap.size
  z : W.heap[w.heap.size]? = some (.cells zs t (0, 0))
  k : W.heap[g]? = some (.cells cs t (0, 0))
section
variable {P : SP} {w W W' : World} {g t : Nat} {cs zs cs' : Array Value}
theorem FlP.step (h : FlP P w g cs zs t W) (hb : BX P W.heap.size W W') : FlP P w g cs zs t W' := by
  obtain ⟨h1, h2, h3, h4, h5, h6, h7⟩ := h
  have hs := hb.size
  exact ⟨h1.trans (hb.mono (by omega)), hb.inv h2, h3, h4, by omega, (hb.block _ (by omega) (by omega)).trans h6, (hb.block _ h5 (by omega)).trans h7⟩
theorem FlP.alloc (h : FlP P w g cs zs t W) (o : Obj) : FlP P w g cs zs t (W.alloc o) := h.step ((BX.refl _ _ _).alloc (Nat.le_refl _) o)
theorem FlP.below (h : FlP P w g cs zs t W) (hb : Below W.heap.size W W') : FlP P w g cs zs t W' := h.step (BX.of_below hb (by have := h.lb; have := h.l0; have := h.l1; omega))
theorem FlP.set (h : FlP P w g cs zs t W) (j : Nat) (u : Value) : FlP P w g (cs.setIfInBounds j u) zs t (W.setCell ⟨g, j, none⟩ u) := by
  obtain ⟨h1, h2, h3, h4, h5, h6, h7⟩ := h
  have hb := h1.setCell (p := ⟨g, j, none⟩) (by simp; omega) (by simp; omega) u
  have hi : P.I (W.setCell ⟨g, j, none⟩ u) := ((BX.refl P (P.b + 1) W).setCell (p := ⟨g, j, none⟩) (by simp; omega) (by simp; omega) u).inv h2
  exact ⟨hb, hi, h3, h4, by simpa using h5, blk_other h6 (by omega), blk3_set h7⟩
theorem FlP.to (h : FlP P w g cs zs t W) (e : cs = cs') : FlP P w g cs' zs t W := e ▸ h
end
theorem gen_worldF {P Q : World → Prop} {W : World} (h : Q W) (k : ∀ W', Q W' → P W') : P W := k W h
set_option maxHeartbeats 4000000 in
theorem l02Draw_any (b : Nat) (A : Option Addr) (n c : Nat) (bs : List Int) (B : Nat) (w : World) (hI : (srcP 106 b A n c bs B).I w) :
    Calls Try.prog 111 #[.pointer (some ⟨b, 0, none⟩)] w fun e w' => ∃ u, e = .returned u ∧ FldT u ∧ BX (srcP 106 b A n c bs B) w.heap.size w w' := by
  have hbw := srcP_lt hI
  have HI := Lib.hid hI
  clear hI
  go_enter Try.func111, Try.ntmps111
  go_wp2_with fail
  (go_at_call 93; with_reducible refine (draw_any b A n c bs B (12) _ (bxinv (B := w.heap.size) ?_ HI) (by omega)).mono ?_; (focus (repeat (first | (with_reducible assumption) | (with_reducible exact BX.refl _ _ _) | (with_reducible refine BX.drewN ?_ _) | (with_reducible refine BX.drew ?_) | ((with_reducible refine BX.alloc ?_ ?_ _); rotate_left; (focus (first | (simp; done) | omega | (simp; omega) | (simp [srcP]; done) | (simp [srcP]; omega)))) | ((with_reducible refine BX.setCell ?_ ?_ ?_ _); rotate_left; (focus (first | (simp; done) | omega | (simp; omega) | (simp [srcP]; done) | (simp [srcP]; omega))); (focus (first | (simp; done) | omega | (simp; omega) | (simp [srcP]; done) | (simp [srcP]; omega))))))); rintro e1 w1 ⟨u1, rfl, ⟨r1, rfl, hr1a, hr1b⟩, hb1⟩; have hB1 : BX (srcP 106 b A n c bs B) w.heap.size w w1 := BX.then (by (repeat (first | (with_reducible assumption) | (with_reducible exact BX.refl _ _ _) | (with_reducible refine BX.drewN ?_ _) | (with_reducible refine BX.drew ?_) | ((with_reducible refine BX.alloc ?_ ?_ _); rotate_left; (focus (first | (simp; done) | omega | (simp; omega) | (simp [srcP]; done) | (simp [srcP]; omega)))) | ((with_reducible refine BX.setCell ?_ ?_ ?_ _); rotate_left; (focus (first | (simp; done) | omega | (simp; omega) | (simp [srcP]; done) | (simp [srcP]; omega))); (focus (first | (simp; done) | omega | (simp; omega) | (simp [srcP]; done) | (simp [srcP]; omega))))))) (by first | omega | (simp; done) | (simp; omega)) hb1; have hc1 := bxcell hb1; have hf1 := bxfrozen hb1; simp only [srcP_b] at hc1 hf1; have hz1a : w.heap.size < w1.heap.size := (by have := hb1.size; first | omega | (simp at this; omega)))
  (have hh1 := Lib.hid (show w1.heap[w.heap.size]? = some (.cells #[.int .i64 0, .int .i64 0, .int .i64 0] 28 (0, 0)) from (hb1.block (w.heap.size) (by first | omega | (simp; done) | (simp; omega) | (simp [srcP]; omega)) (by first | omega | (simp; done) | (simp; omega) | (simp [srcP]; omega))).trans (by repeat (first | (with_reducible exact rfl) | (with_reducible exact heap_alloc_new _ _) | (rw [heap_drew1]) | (rw [heap_drewN1]) | (rw [Below.heap_setCell _ _ _ _ (by first | omega | (simp; done) | (simp; omega) | (simp [srcP]; omega))]) | (rw [Below.heap_alloc _ _ _ (by first | omega | (simp; done) | (simp; omega) | (simp [srcP]; omega))])))))
  have hl1 : w1.heap[(w.alloc (.cells #[.int .i64 0, .int .i64 0, .int .i64 0] 28)).heap.size]? = some (.cells ([8, 16, 32, 64, 7, 11, 13, 17, 31, 256, 101, 3].map (Value.int .i64)).toArray 2 (0, 0)) := (hb1.block _ (by simp) (by simp; omega)).trans (heap_alloc_new _ _)
  obtain ⟨R, v, rfl, hR, hv, hv1, hv2⟩ := pick_in (xs := [8, 16, 32, 64, 7, 11, 13, 17, 31, 256, 101, 3]) (lo := 3) (hi := 256) (by decide) hr1a (by simp; omega)
  have hck := pick_lit hl1 hv
  have hR' : R < 12 := hR
  simp only [World.size_alloc] at hck
  obtain ⟨N, rfl⟩ := Int.eq_ofNat_of_zero_le (show 0 ≤ v by omega)
  have hs1 := hb1.size
  simp only [World.size_alloc] at hs1
  have HB1 := Lib.hid hB1
  have HF := Lib.hid (fun w => sFieldOf_some N w (by omega) (by omega))
  clear hl1 hv hb1 hB1 hc1 hf1
  go_wp2_with fail
  go_at_call 68
  with_reducible refine (HF.out _).mono ?_
  rintro e2 w2 ⟨u2, rfl, hfc, hb2⟩
  obtain ⟨X0, X1, X2, cc, rfl⟩ := hfc
  go_upto_region 3 with fail
  obtain ⟨g, hg⟩ : ∃ g, w2.heap.size = g := ⟨_, rfl⟩
  refine gen_worldF (P := fun W' => Code.wp _ _ _ _ W') (Q := fun W' => FlP (srcP 106 b A n c bs B) w g #[.int .i64 X0, .int .i64 X1, .int .i64 X2] #[.int .i64 0, .int .i64 0, .int .i64 0] 28 W') ?_ ?_
  · subst hg
    have hs2 := hb2.size
    have hbx : BX (srcP 106 b A n c bs B) w.heap.size w (w2.alloc (.cells #[.int .i64 X0, .int .i64 X1, .int .i64 X2] 28)) := (HB1.out.thenB (by omega) hb2).alloc (by omega) _
    exact ⟨hbx, hbx.inv HI.out, hbw, by omega, by simp, blk_alloc (blk_below hh1.out hb2 (by omega)) (by omega), heap_alloc_new _ _⟩
  intro W hp
  have HP := Lib.hid hp
  rw [hg]
  clear hp hck hb2 HB1 hh1 hg
  obtain ⟨y0, y1, y2, -⟩ := blk3 HP.out.k
  obtain ⟨z0, z1, z2, zf⟩ := blk3 HP.out.z
  obtain ⟨s0, s1, s2⟩ := res3 HP.out.z (.int .i64 X0) (.int .i64 X1) (.int .i64 X2)
  have hl0 := HP.out.l0
  have hl1 := HP.out.l1
  have hlb := HP.out.lb
  go_wp2_with fail
  (try simp only [Exit.inBlock, Exit.then]); refine bodyPost_ret (by simp [results, Try.results111, go_sem, s0, s1, s2]; try rfl) rfl ?_
  exact ⟨_, rfl, ⟨_, _, _, rfl⟩, ((HP.out.bx.setCell (p := ⟨w.heap.size, 0, none⟩) (Nat.le_refl _) hlb _).setCell (p := ⟨w.heap.size, 1, none⟩) (Nat.le_refl _) hlb _).setCell (p := ⟨w.heap.size, 2, none⟩) (Nat.le_refl _) hlb _⟩
set_option maxRecDepth 20000 in
set_option maxHeartbeats 4000000 in
theorem l02DrawAny_any (b : Nat) (A : Option Addr) (n c : Nat) (bs : List Int) (B : Nat) (w : World) (hI : (srcP 106 b A n c bs B).I w) :
    Calls Try.prog 94 #[.pointer (some ⟨b, 0, none⟩)] w fun e w' => ∃ u, e = .returned u ∧ FldT u ∧ BX (srcP 106 b A n c bs B) w.heap.size w w' := by
  have hbw := srcP_lt hI
  have HI := Lib.hid hI
  clear hI
  go_enter Try.func94, Try.ntmps94
  go_wp2_with fail
  go_at_call 111
  with_reducible refine (l02Draw_any b A n c bs B _ (((BX.refl _ (b + 1) w).alloc (by omega) _).inv HI.out)).mono ?_
  rintro e1 w1 ⟨u1, rfl, hft, hb1⟩
  obtain ⟨X0, X1, X2, rfl⟩ := hft
  go_upto_region 2 with fail
  obtain ⟨g, hg⟩ : ∃ g, w1.heap.size = g := ⟨_, rfl⟩
  refine gen_worldF (P := fun W' => Code.wp _ _ _ _ W') (Q := fun W' => FlP (srcP 106 b A n c bs B) w g #[.int .i64 X0, .int .i64 X1, .int .i64 X2] #[.int .i64 0, .int .i64 0, .int .i64 0] 28 W') ?_ ?_
  · subst hg
    have hs1 := hb1.size
    simp only [World.size_alloc] at hs1
    have hbx : BX (srcP 106 b A n c bs B) w.heap.size w (w1.alloc (.cells #[.int .i64 X0, .int .i64 X1, .int .i64 X2] 28)) := (((BX.refl _ _ _).alloc (Nat.le_refl _) _).trans (hb1.mono (by simp))).alloc (by omega) _
    exact ⟨hbx, hbx.inv HI.out, hbw, by omega, by simp, blk_alloc ((hb1.block _ (by simp) (by simp; omega)).trans (heap_alloc_new _ _)) (by omega), heap_alloc_new _ _⟩
  intro W hp
  have HP := Lib.hid hp
  rw [hg]
  clear hp hb1 hg HI
  go_wp2_with fail
  go_at_call 93
  with_reducible refine (draw_any b A n c bs B (20) _ HP.out.inv (by omega)).mono ?_
  rintro e2 w2 ⟨u2, rfl, ⟨r2, rfl, hr2a, hr2b⟩, hb2⟩
  have HP2 := Lib.hid (HP.out.step hb2)
  clear hb2 HP
  have hbg : b < g := by have := HP2.out.l0; omega
  have hgw : g < w2.heap.size := HP2.out.l1
  rcases (show r2 = 0 ∨ r2 = 1 ∨ r2 = 2 ∨ r2 = 3 ∨ 4 ≤ r2 by omega) with rfl | rfl | rfl | rfl | h4

  · obtain ⟨y0, y1, y2, yf⟩ := blk3 HP2.out.k
    go_upto_region 11 with fail
    refine gen_worldF (P := fun W' => Code.wp _ _ _ _ W') (Q := fun W' => ∃ x : Int, FlP (srcP 106 b A n c bs B) w g #[.int .i64 X0, .int .i64 X1, .int .i64 x] #[.int .i64 0, .int .i64 0, .int .i64 0] 28 W') ⟨_, (HP2.out.set 2 _).to rfl⟩ ?_
    rintro W' ⟨x, hp⟩
    have HP := Lib.hid hp
    clear hp
    clear y0 y1 y2 yf
    obtain ⟨y0, y1, y2, -⟩ := blk3 HP.out.k
    obtain ⟨z0, z1, z2, zf⟩ := blk3 HP.out.z
    obtain ⟨s0, s1, s2⟩ := res3 HP.out.z (.int .i64 X0) (.int .i64 X1) (.int .i64 x)
    have hl0 := HP.out.l0
    have hl1 := HP.out.l1
    have hlb := HP.out.lb
    go_wp2_with fail
    (try simp only [Exit.inBlock, Exit.then]); refine bodyPost_ret (by simp [results, Try.results94, go_sem, s0, s1, s2]; try rfl) rfl ?_
    exact ⟨_, rfl, ⟨_, _, _, rfl⟩, ((HP.out.bx.setCell (p := ⟨w.heap.size, 0, none⟩) (Nat.le_refl _) hlb _).setCell (p := ⟨w.heap.size, 1, none⟩) (Nat.le_refl _) hlb _).setCell (p := ⟨w.heap.size, 2, none⟩) (Nat.le_refl _) hlb _⟩
  · go_wp2_with fail
    go_at_call 93
    with_reducible refine (draw_any b A n c bs B (4) _ (HP2.out.alloc _).inv (by omega)).mono ?_
    rintro e3 w3 ⟨u3, rfl, ⟨r3, rfl, hr3a, hr3b⟩, hb3⟩
    have HP3 := Lib.hid ((HP2.out.alloc _).step hb3)
    have hl3 : w3.heap[w2.heap.size]? = some (.cells ([0, 1, 2, 9].map (Value.int .i64)).toArray 2 (0, 0)) := (hb3.block _ (by simp) (by simp; omega)).trans (heap_alloc_new _ _)
    obtain ⟨R, v, rfl, hR, hv, -, -⟩ := pick_in (xs := [0, 1, 2, 9]) (lo := -3) (hi := 1031) (by decide) hr3a (by simp; omega)
    have hck := pick_lit hl3 hv
    have hR' : R < 4 := hR
    obtain ⟨y0, y1, y2, yf⟩ := blk3 HP3.out.k
    have hg3 := HP3.out.l1
    have hs3 := hb3.size
    simp only [World.size_alloc] at hs3
    clear hl3 hv hb3
    go_upto_region 11 with fail
    clear y0 y1 y2 yf hck
    refine gen_worldF (P := fun W' => Code.wp _ _ _ _ W') (Q := fun W' => ∃ x : Int, FlP (srcP 106 b A n c bs B) w g #[.int .i64 X0, .int .i64 x, .int .i64 X2] #[.int .i64 0, .int .i64 0, .int .i64 0] 28 W') ⟨_, (HP3.out.set 1 _).to rfl⟩ ?_
    rintro W' ⟨x, hp⟩
    have HP := Lib.hid hp
    clear hp
    obtain ⟨y0, y1, y2, -⟩ := blk3 HP.out.k
    obtain ⟨z0, z1, z2, zf⟩ := blk3 HP.out.z
    obtain ⟨s0, s1, s2⟩ := res3 HP.out.z (.int .i64 X0) (.int .i64 x) (.int .i64 X2)
    have hl0 := HP.out.l0
    have hl1 := HP.out.l1
    have hlb := HP.out.lb
    go_wp2_with fail
    (try simp only [Exit.inBlock, Exit.then]); refine bodyPost_ret (by simp [results, Try.results94, go_sem, s0, s1, s2]; try rfl) rfl ?_
    exact ⟨_, rfl, ⟨_, _, _, rfl⟩, ((HP.out.bx.setCell (p := ⟨w.heap.size, 0, none⟩) (Nat.le_refl _) hlb _).setCell (p := ⟨w.heap.size, 1, none⟩) (Nat.le_refl _) hlb _).setCell (p := ⟨w.heap.size, 2, none⟩) (Nat.le_refl _) hlb _⟩
  · go_wp2_with fail
    go_at_call 93
    with_reducible refine (draw_any b A n c bs B (6) _ (HP2.out.alloc _).inv (by omega)).mono ?_
    rintro e3 w3 ⟨u3, rfl, ⟨r3, rfl, hr3a, hr3b⟩, hb3⟩
    have HP3 := Lib.hid ((HP2.out.alloc _).step hb3)
    have hl3 : w3.heap[w2.heap.size]? = some (.cells ([1, 4, 9, 1021, 1031, -3].map (Value.int .i64)).toArray 2 (0, 0)) := (hb3.block _ (by simp) (by simp; omega)).trans (heap_alloc_new _ _)
    obtain ⟨R, v, rfl, hR, hv, -, -⟩ := pick_in (xs := [1, 4, 9, 1021, 1031, -3]) (lo := -3) (hi := 1031) (by decide) hr3a (by simp; omega)
    have hck := pick_lit hl3 hv
    have hR' : R < 6 := hR
    obtain ⟨y0, y1, y2, yf⟩ := blk3 HP3.out.k
    have hg3 := HP3.out.l1
    have hs3 := hb3.size
    simp only [World.size_alloc] at hs3
    clear hl3 hv hb3
    go_upto_region 11 with fail
    clear y0 y1 y2 yf hck
    refine gen_worldF (P := fun W' => Code.wp _ _ _ _ W') (Q := fun W' => ∃ x : Int, FlP (srcP 106 b A n c bs B) w g #[.int .i64 x, .int .i64 X1, .int .i64 X2] #[.int .i64 0, .int .i64 0, .int .i64 0] 28 W') ⟨_, (HP3.out.set 0 _).to rfl⟩ ?_
    rintro W' ⟨x, hp⟩
    have HP := Lib.hid hp
    clear hp
    obtain ⟨y0, y1, y2, -⟩ := blk3 HP.out.k
    obtain ⟨z0, z1, z2, zf⟩ := blk3 HP.out.z
    obtain ⟨s0, s1, s2⟩ := res3 HP.out.z (.int .i64 x) (.int .i64 X1) (.int .i64 X2)
    have hl0 := HP.out.l0
    have hl1 := HP.out.l1
    have hlb := HP.out.lb
    go_wp2_with fail
    (try simp only [Exit.inBlock, Exit.then]); refine bodyPost_ret (by simp [results, Try.results94, go_sem, s0, s1, s2]; try rfl) rfl ?_
    exact ⟨_, rfl, ⟨_, _, _, rfl⟩, ((HP.out.bx.setCell (p := ⟨w.heap.size, 0, none⟩) (Nat.le_refl _) hlb _).setCell (p := ⟨w.heap.size, 1, none⟩) (Nat.le_refl _) hlb _).setCell (p := ⟨w.heap.size, 2, none⟩) (Nat.le_refl _) hlb _⟩
  · go_wp2_with fail
    go_at_call 93
    with_reducible refine (draw_any b A n c bs B (4) _ (HP2.out.alloc _).inv (by omega)).mono ?_
    rintro e3 w3 ⟨u3, rfl, ⟨r3, rfl, hr3a, hr3b⟩, hb3⟩
    have HP3 := Lib.hid ((HP2.out.alloc _).step hb3)
    have hl3 : w3.heap[w2.heap.size]? = some (.cells #[.int .i64 1021, .int .i64 1, .int .i64 10, .int .i64 2, .int .i64 4, .int .i64 31, .int .i64 2, .int .i64 4, .int .i64 25, .int .i64 7, .int .i64 1, .int .i64 5] 28 (0, 0)) := (hb3.block _ (by simp) (by simp; omega)).trans (heap_alloc_new _ _)
    have hg3 := HP3.out.l1
    have hlb := HP3.out.lb
    have hs3 := hb3.size
    simp only [World.size_alloc] at hs3
    obtain ⟨z0, z1, z2, zf⟩ := blk3 HP3.out.z
    have hk : ∀ j, w3.cell? ⟨w2.heap.size, j, none⟩ = _ := fun j => blk_cell hl3 j
    clear hb3 hl3
    rcases (show r3 = 0 ∨ r3 = 1 ∨ r3 = 2 ∨ r3 = 3 by omega) with rfl | rfl | rfl | rfl
    · have k0 : w3.cell? ⟨w2.heap.size, 0, none⟩ = some (.int .i64 1021) := (hk 0).trans rfl
      have k1 : w3.cell? ⟨w2.heap.size, 1, none⟩ = some (.int .i64 1) := (hk 1).trans rfl
      have k2 : w3.cell? ⟨w2.heap.size, 2, none⟩ = some (.int .i64 10) := (hk 2).trans rfl
      obtain ⟨s0, s1, s2⟩ := res3 HP3.out.z (.int .i64 1021) (.int .i64 1) (.int .i64 10)
      clear hk
      go_wp2_with fail
      (try simp only [Exit.inBlock, Exit.then]); refine bodyPost_ret (by simp [results, Try.results94, go_sem, s0, s1, s2]; try rfl) rfl ?_
      exact ⟨_, rfl, ⟨_, _, _, rfl⟩, ((HP3.out.bx.setCell (p := ⟨w.heap.size, 0, none⟩) (Nat.le_refl _) hlb _).setCell (p := ⟨w.heap.size, 1, none⟩) (Nat.le_refl _) hlb _).setCell (p := ⟨w.heap.size, 2, none⟩) (Nat.le_refl _) hlb _⟩
    · have k0 : w3.cell? ⟨w2.heap.size, 3, none⟩ = some (.int .i64 2) := (hk 3).trans rfl
      have k1 : w3.cell? ⟨w2.heap.size, 4, none⟩ = some (.int .i64 4) := (hk 4).trans rfl
      have k2 : w3.cell? ⟨w2.heap.size, 5, none⟩ = some (.int .i64 31) := (hk 5).trans rfl
      obtain ⟨s0, s1, s2⟩ := res3 HP3.out.z (.int .i64 2) (.int .i64 4) (.int .i64 31)
      clear hk
      go_wp2_with fail
      (try simp only [Exit.inBlock, Exit.then]); refine bodyPost_ret (by simp [results, Try.results94, go_sem, s0, s1, s2]; try rfl) rfl ?_
      exact ⟨_, rfl, ⟨_, _, _, rfl⟩, ((HP3.out.bx.setCell (p := ⟨w.heap.size, 0, none⟩) (Nat.le_refl _) hlb _).setCell (p := ⟨w.heap.size, 1, none⟩) (Nat.le_refl _) hlb _).setCell (p := ⟨w.heap.size, 2, none⟩) (Nat.le_refl _) hlb _⟩
    · have k0 : w3.cell? ⟨w2.heap.size, 6, none⟩ = some (.int .i64 2) := (hk 6).trans rfl
      have k1 : w3.cell? ⟨w2.heap.size, 7, none⟩ = some (.int .i64 4) := (hk 7).trans rfl
      have k2 : w3.cell? ⟨w2.heap.size, 8, none⟩ = some (.int .i64 25) := (hk 8).trans rfl
      obtain ⟨s0, s1, s2⟩ := res3 HP3.out.z (.int .i64 2) (.int .i64 4) (.int .i64 25)
      clear hk
      go_wp2_with fail
      (try simp only [Exit.inBlock, Exit.then]); refine bodyPost_ret (by simp [results, Try.results94, go_sem, s0, s1, s2]; try rfl) rfl ?_
      exact ⟨_, rfl, ⟨_, _, _, rfl⟩, ((HP3.out.bx.setCell (p := ⟨w.heap.size, 0, none⟩) (Nat.le_refl _) hlb _).setCell (p := ⟨w.heap.size, 1, none⟩) (Nat.le_refl _) hlb _).setCell (p := ⟨w.heap.size, 2, none⟩) (Nat.le_refl _) hlb _⟩
    · have k0 : w3.cell? ⟨w2.heap.size, 9, none⟩ = some (.int .i64 7) := (hk 9).trans rfl
      have k1 : w3.cell? ⟨w2.heap.size, 10, none⟩ = some (.int .i64 1) := (hk 10).trans rfl
      have k2 : w3.cell? ⟨w2.heap.size, 11, none⟩ = some (.int .i64 5) := (hk 11).trans rfl
      obtain ⟨s0, s1, s2⟩ := res3 HP3.out.z (.int .i64 7) (.int .i64 1) (.int .i64 5)
      clear hk
      go_wp2_with fail
      (try simp only [Exit.inBlock, Exit.then]); refine bodyPost_ret (by simp [results, Try.results94, go_sem, s0, s1, s2]; try rfl) rfl ?_
      exact ⟨_, rfl, ⟨_, _, _, rfl⟩, ((HP3.out.bx.setCell (p := ⟨w.heap.size, 0, none⟩) (Nat.le_refl _) hlb _).setCell (p := ⟨w.heap.size, 1, none⟩) (Nat.le_refl _) hlb _).setCell (p := ⟨w.heap.size, 2, none⟩) (Nat.le_refl _) hlb _⟩
  · have e0 : (r2 == 0) = false := by simp; omega
    have e1 : (r2 == 1) = false := by simp; omega
    have e2 : (r2 == 2) = false := by simp; omega
    have e3 : (r2 == 3) = false := by simp; omega
    obtain ⟨y0, y1, y2, -⟩ := blk3 HP2.out.k
    obtain ⟨z0, z1, z2, zf⟩ := blk3 HP2.out.z
    obtain ⟨s0, s1, s2⟩ := res3 HP2.out.z (.int .i64 X0) (.int .i64 X1) (.int .i64 X2)
    have hl0 := HP2.out.l0
    have hl1 := HP2.out.l1
    have hlb := HP2.out.lb
    go_wp2_with fail
    (try simp only [Exit.inBlock, Exit.then]); refine bodyPost_ret (by simp [results, Try.results94, go_sem, s0, s1, s2]; try rfl) rfl ?_
    exact ⟨_, rfl, ⟨_, _, _, rfl⟩, ((HP2.out.bx.setCell (p := ⟨w.heap.size, 0, none⟩) (Nat.le_refl _) hlb _).setCell (p := ⟨w.heap.size, 1, none⟩) (Nat.le_refl _) hlb _).setCell (p := ⟨w.heap.size, 2, none⟩) (Nat.le_refl _) hlb _⟩
end Go.Proofs.Ytbgcbjfimjfbpaa
namespace Go.Proofs.Ytbgcbjfimjfbpaa
set_option linter.unusedSimpArgs false
open Go.RowKit

/-- Blocks laid one behind the other. -/
def allocs (W : World) (os : List Obj) : World := os.foldl World.alloc W
theorem allocs_size (os : List Obj) : ∀ W : World, (allocs W os).heap.size = W.heap.size + os.length := by
  induction os with
  | nil => intro W; rfl
  | cons o os ih => intro W; show (allocs (W.alloc o) os).heap.size = _; rw [ih, World.size_alloc, List.length_cons]; omega
theorem allocs_below (os : List Obj) : ∀ W : World, Below W.heap.size W (allocs W os) := by
  induction os with
  | nil => intro W; exact Below.refl _ _
  | cons o os ih => intro W; exact ((Below.refl _ _).alloc (Nat.le_refl _) o).trans ((ih (W.alloc o)).mono (by simp))
theorem allocs_get (os : List Obj) : ∀ (W : World) (i : Nat), i < os.length → (allocs W os).heap[W.heap.size + i]? = os[i]? := by
  induction os with
  | nil => intro W i hi; cases hi
  | cons o os ih =>
    intro W i hi
    cases i with
    | zero => exact ((allocs_below os (W.alloc o)).block W.heap.size (by simp)).trans (heap_alloc_new W o)
    | succ i =>
      have := ih (W.alloc o) i (by simpa using hi)
      rw [World.size_alloc] at this
      rw [show W.heap.size + (i + 1) = W.heap.size + 1 + i by omega, List.getElem?_cons_succ]
      exact this
theorem own_lit {W : World} {g B n : Nat} {xs : List Int} (hk : W.heap[g]? = some (.cells (xs.map (Value.int .i64)).toArray 2 (0, 0))) (hB : B ≤ g) (hn : xs.length = n) (hm : n ≤ 1000) : Own W B (.slice (some ⟨g, 0, none⟩) n n) xs := by
  subst hn
  exact ⟨by simp, .inr ⟨g, xs.length, _, rfl, hB, hk, Nat.le_refl _, by unfold maxLen; omega, by simp, by simp [List.take_of_length_le]⟩⟩
theorem Own.setFar {w : World} {B : Nat} {v : Value} {xs : List Int} (h : Own w B v xs) {p : Addr} (hp : ∀ j, v.ownBlock = some j → j ≠ p.block) (u : Value) : Own (w.setCell p u) B v xs := by
  refine ⟨h.1, ?_⟩
  rcases h.2 with h' | ⟨g, cap, cur, rfl, hB, hg, hr⟩
  · exact .inl h'
  · exact .inr ⟨g, cap, cur, rfl, hB, (Below.heap_setCell _ _ _ _ (hp g rfl)).trans hg, hr⟩
def FamD (w : World) (B : Nat) (u : Value) : Prop := ∃ (s : ByteArray) (kind p k gg col : Int) (v1 v2 : Value) (sz lv : List Int), u = .agg #[.string s, .int .i64 kind, .int .i64 p, .int .i64 k, .int .i64 gg, v1, .int .i64 col, v2] ∧ (s.size ≤ 100 ∧ sz.length ≤ 100 ∧ lv.length ≤ 100 ∧ 0 ≤ kind ∧ kind ≤ 3) ∧ Own w B v1 sz ∧ Own w B v2 lv
def LibW (w w' : World) (u : Value) : Prop := ∃ gl : Nat, u = .slice (some ⟨gl, 0, none⟩) 5 5 ∧ w.heap.size ≤ gl ∧ gl < w'.heap.size ∧ ∀ r : Nat, r < 5 → ∃ (s : ByteArray) (kind p k g col : Int) (v1 v2 : Value) (sz lv : List Int),
  (w'.cell? ⟨gl, r * 8, none⟩ = some (.string s) ∧ w'.cell? ⟨gl, r * 8 + 1, none⟩ = some (.int .i64 kind) ∧ w'.cell? ⟨gl, r * 8 + 2, none⟩ = some (.int .i64 p) ∧ w'.cell? ⟨gl, r * 8 + 3, none⟩ = some (.int .i64 k) ∧ w'.cell? ⟨gl, r * 8 + 4, none⟩ = some (.int .i64 g) ∧ w'.cell? ⟨gl, r * 8 + 5, none⟩ = some (v1) ∧ w'.cell? ⟨gl, r * 8 + 6, none⟩ = some (.int .i64 col) ∧ w'.cell? ⟨gl, r * 8 + 7, none⟩ = some (v2)) ∧ (s.size ≤ 100 ∧ sz.length ≤ 100 ∧ lv.length ≤ 100 ∧ 0 ≤ kind ∧ kind ≤ 3) ∧ Own w' w.heap.size v1 sz ∧ Own w' w.heap.size v2 lv
def liO (W : World) (p1 k1 g1 p2 k2 g2 p3 k3 g3 p4 k4 g4 : Int) : List Obj := [.cells #[.int .i64 17, .int .i64 21, .int .i64 25] 2, .cells #[.int .i64 20, .int .i64 40] 2, .cells #[.int .i64 17, .int .i64 21, .int .i64 25, .int .i64 29, .int .i64 33] 2, .cells #[.int .i64 15, .int .i64 30, .int .i64 60] 2, .cells #[.int .i64 17, .int .i64 21, .int .i64 25, .int .i64 29, .int .i64 33, .int .i64 37, .int .i64 41] 2, .cells #[.int .i64 10, .int .i64 20, .int .i64 30, .int .i64 50] 2, .cells #[.int .i64 4, .int .i64 6, .int .i64 8, .int .i64 12, .int .i64 16, .int .i64 24] 2, .cells #[.int .i64 25, .int .i64 50] 2, .cells #[.int .i64 3, .int .i64 4, .int .i64 5] 2, .cells #[.int .i64 30] 2, .cells #[.string ⟨#[116, 105, 108, 101]⟩, .int .i64 1, .int .i64 p1, .int .i64 k1, .int .i64 g1, .slice (some ⟨W.heap.size, 0, none⟩) 3 3, .int .i64 0, .slice (some ⟨W.heap.size + 1, 0, none⟩) 2 2, .string ⟨#[112, 97, 110, 101, 108]⟩, .int .i64 1, .int .i64 p2, .int .i64 k2, .int .i64 g2, .slice (some ⟨W.heap.size + 2, 0, none⟩) 5 5, .int .i64 0, .slice (some ⟨W.heap.size + 3, 0, none⟩) 3 3, .string ⟨#[112, 108, 97, 116, 101]⟩, .int .i64 1, .int .i64 p3, .int .i64 k3, .int .i64 g3, .slice (some ⟨W.heap.size + 4, 0, none⟩) 7 7, .int .i64 0, .slice (some ⟨W.heap.size + 5, 0, none⟩) 4 4, .string ⟨#[115, 116, 97, 99, 107]⟩, .int .i64 2, .int .i64 p4, .int .i64 k4, .int .i64 g4, .slice (some ⟨W.heap.size + 6, 0, none⟩) 6 6, .int .i64 4, .slice (some ⟨W.heap.size + 7, 0, none⟩) 2 2, .string ⟨#[114, 105, 98, 98, 111, 110]⟩, .int .i64 2, .int .i64 p4, .int .i64 k4, .int .i64 g4, .slice (some ⟨W.heap.size + 8, 0, none⟩) 3 3, .int .i64 8, .slice (some ⟨W.heap.size + 9, 0, none⟩) 1 1] 34]
set_option maxRecDepth 20000 in
theorem lib_told {w W : World} (hb : Below w.heap.size w W) (p1 k1 g1 p2 k2 g2 p3 k3 g3 p4 k4 g4 : Int) : LibW w (allocs W (liO W p1 k1 g1 p2 k2 g2 p3 k3 g3 p4 k4 g4)) (.slice (some ⟨W.heap.size + 10, 0, none⟩) 5 5) := by
  have hs := hb.size
  have hsz := allocs_size (liO W p1 k1 g1 p2 k2 g2 p3 k3 g3 p4 k4 g4) W
  have hg := fun i hi => allocs_get (liO W p1 k1 g1 p2 k2 g2 p3 k3 g3 p4 k4 g4) W i hi
  have hl : (liO W p1 k1 g1 p2 k2 g2 p3 k3 g3 p4 k4 g4).length = 11 := rfl
  rw [hl] at hsz hg
  have hbig := hg 10 (by omega)
  refine ⟨W.heap.size + 10, rfl, by omega, by omega, fun r hr => ?_⟩
  rcases (show r = 0 ∨ r = 1 ∨ r = 2 ∨ r = 3 ∨ r = 4 by omega) with rfl | rfl | rfl | rfl | rfl
  · exact ⟨⟨#[116, 105, 108, 101]⟩, 1, p1, k1, g1, 0, _, _, [17, 21, 25], [20, 40], ⟨(blk_cell hbig 0).trans rfl, (blk_cell hbig 1).trans rfl, (blk_cell hbig 2).trans rfl, (blk_cell hbig 3).trans rfl, (blk_cell hbig 4).trans rfl, (blk_cell hbig 5).trans rfl, (blk_cell hbig 6).trans rfl, (blk_cell hbig 7).trans rfl⟩, by decide, own_lit (hg 0 (by omega)) (by omega) rfl (by decide), own_lit (hg 1 (by omega)) (by omega) rfl (by decide)⟩
  · exact ⟨⟨#[112, 97, 110, 101, 108]⟩, 1, p2, k2, g2, 0, _, _, [17, 21, 25, 29, 33], [15, 30, 60], ⟨(blk_cell hbig 8).trans rfl, (blk_cell hbig 9).trans rfl, (blk_cell hbig 10).trans rfl, (blk_cell hbig 11).trans rfl, (blk_cell hbig 12).trans rfl, (blk_cell hbig 13).trans rfl, (blk_cell hbig 14).trans rfl, (blk_cell hbig 15).trans rfl⟩, by decide, own_lit (hg 2 (by omega)) (by omega) rfl (by decide), own_lit (hg 3 (by omega)) (by omega) rfl (by decide)⟩
  · exact ⟨⟨#[112, 108, 97, 116, 101]⟩, 1, p3, k3, g3, 0, _, _, [17, 21, 25, 29, 33, 37, 41], [10, 20, 30, 50], ⟨(blk_cell hbig 16).trans rfl, (blk_cell hbig 17).trans rfl, (blk_cell hbig 18).trans rfl, (blk_cell hbig 19).trans rfl, (blk_cell hbig 20).trans rfl, (blk_cell hbig 21).trans rfl, (blk_cell hbig 22).trans rfl, (blk_cell hbig 23).trans rfl⟩, by decide, own_lit (hg 4 (by omega)) (by omega) rfl (by decide), own_lit (hg 5 (by omega)) (by omega) rfl (by decide)⟩
  · exact ⟨⟨#[115, 116, 97, 99, 107]⟩, 2, p4, k4, g4, 4, _, _, [4, 6, 8, 12, 16, 24], [25, 50], ⟨(blk_cell hbig 24).trans rfl, (blk_cell hbig 25).trans rfl, (blk_cell hbig 26).trans rfl, (blk_cell hbig 27).trans rfl, (blk_cell hbig 28).trans rfl, (blk_cell hbig 29).trans rfl, (blk_cell hbig 30).trans rfl, (blk_cell hbig 31).trans rfl⟩, by decide, own_lit (hg 6 (by omega)) (by omega) rfl (by decide), own_lit (hg 7 (by omega)) (by omega) rfl (by decide)⟩
  · exact ⟨⟨#[114, 105, 98, 98, 111, 110]⟩, 2, p4, k4, g4, 8, _, _, [3, 4, 5], [30], ⟨(blk_cell hbig 32).trans rfl, (blk_cell hbig 33).trans rfl, (blk_cell hbig 34).trans rfl, (blk_cell hbig 35).trans rfl, (blk_cell hbig 36).trans rfl, (blk_cell hbig 37).trans rfl, (blk_cell hbig 38).trans rfl, (blk_cell hbig 39).trans rfl⟩, by decide, own_lit (hg 8 (by omega)) (by omega) rfl (by decide), own_lit (hg 9 (by omega)) (by omega) rfl (by decide)⟩
set_option maxRecDepth 20000 in
set_option maxHeartbeats 4000000 in
theorem Library_any (w : World) :
    Calls Try.prog 110 #[] w fun e w' => ∃ u, e = .returned u ∧ LibW w w' u ∧ Below w.heap.size w w' := by
  go_enter Try.func110, Try.ntmps110
  have HF1 := Lib.hid (show ∀ w, Calls Try.prog 68 #[.int .i64 16] w fun e w' => ∃ u, e = .returned u ∧ FldC u ∧ Below w.heap.size w w' from fun w => sFieldOf_some 16 w (by decide) (by decide))
  go_wp2_with fail
  go_at_call 68
  with_reducible refine (HF1.out _).mono ?_
  rintro e1 w1 ⟨u1, rfl, ⟨p1, k1, g1, c1, rfl⟩, hb1⟩
  have HB1 := Lib.hid hb1
  have HF2 := Lib.hid (show ∀ w, Calls Try.prog 68 #[.int .i64 64] w fun e w' => ∃ u, e = .returned u ∧ FldC u ∧ Below w.heap.size w w' from fun w => sFieldOf_some 64 w (by decide) (by decide))
  go_wp2_with fail
  go_at_call 68
  with_reducible refine (HF2.out _).mono ?_
  rintro e2 w2 ⟨u2, rfl, ⟨p2, k2, g2, c2, rfl⟩, hb2⟩
  have HB2 := Lib.hid ((HB1.out.alloc HB1.out.size _).trans (hb2.mono (by have := HB1.out.size; simp; omega)))
  have HK12 := Lib.hid (blk_below (heap_alloc_new w1 (.cells #[.int .i64 p1, .int .i64 k1, .int .i64 g1] 28)) hb2 (by simp))
  have HF3 := Lib.hid (show ∀ w, Calls Try.prog 68 #[.int .i64 256] w fun e w' => ∃ u, e = .returned u ∧ FldC u ∧ Below w.heap.size w w' from fun w => sFieldOf_some 256 w (by decide) (by decide))
  go_wp2_with fail
  go_at_call 68
  with_reducible refine (HF3.out _).mono ?_
  rintro e3 w3 ⟨u3, rfl, ⟨p3, k3, g3, c3, rfl⟩, hb3⟩
  have HB3 := Lib.hid ((HB2.out.alloc HB2.out.size _).trans (hb3.mono (by have := HB2.out.size; simp; omega)))
  have HK23 := Lib.hid (blk_below (heap_alloc_new w2 (.cells #[.int .i64 p2, .int .i64 k2, .int .i64 g2] 28)) hb3 (by simp))
  have HK13 := Lib.hid (blk_below (blk_alloc (u := .cells #[.int .i64 p2, .int .i64 k2, .int .i64 g2] 28) HK12.out (lt_of_block HK12.out)) hb3 (by have := lt_of_block HK12.out; simp; omega))
  have HF4 := Lib.hid (show ∀ w, Calls Try.prog 68 #[.int .i64 32] w fun e w' => ∃ u, e = .returned u ∧ FldC u ∧ Below w.heap.size w w' from fun w => sFieldOf_some 32 w (by decide) (by decide))
  go_wp2_with fail
  go_at_call 68
  with_reducible refine (HF4.out _).mono ?_
  rintro e4 w4 ⟨u4, rfl, ⟨p4, k4, g4, c4, rfl⟩, hb4⟩
  have HB4 := Lib.hid ((HB3.out.alloc HB3.out.size _).trans (hb4.mono (by have := HB3.out.size; simp; omega)))
  have HK34 := Lib.hid (blk_below (heap_alloc_new w3 (.cells #[.int .i64 p3, .int .i64 k3, .int .i64 g3] 28)) hb4 (by simp))
  have HK14 := Lib.hid (blk_below (blk_alloc (u := .cells #[.int .i64 p3, .int .i64 k3, .int .i64 g3] 28) HK13.out (lt_of_block HK13.out)) hb4 (by have := lt_of_block HK13.out; simp; omega))
  have HK24 := Lib.hid (blk_below (blk_alloc (u := .cells #[.int .i64 p3, .int .i64 k3, .int .i64 g3] 28) HK23.out (lt_of_block HK23.out)) hb4 (by have := lt_of_block HK23.out; simp; omega))
  obtain ⟨b1, hbd1⟩ : ∃ x, w1.heap.size = x := ⟨_, rfl⟩
  obtain ⟨b2, hbd2⟩ : ∃ x, w2.heap.size = x := ⟨_, rfl⟩
  obtain ⟨b3, hbd3⟩ : ∃ x, w3.heap.size = x := ⟨_, rfl⟩
  obtain ⟨b4, hbd4⟩ : ∃ x, w4.heap.size = x := ⟨_, rfl⟩
  go_upto_region 5 with fail
  refine gen_worldF (P := fun W' => Code.wp _ _ _ _ W') (Q := fun W' => Below w.heap.size w W' ∧ W'.heap[b1]? = some (.cells #[.int .i64 p1, .int .i64 k1, .int .i64 g1] 28 (0, 0)) ∧ W'.heap[b2]? = some (.cells #[.int .i64 p2, .int .i64 k2, .int .i64 g2] 28 (0, 0)) ∧ W'.heap[b3]? = some (.cells #[.int .i64 p3, .int .i64 k3, .int .i64 g3] 28 (0, 0)) ∧ W'.heap[b4]? = some (.cells #[.int .i64 p4, .int .i64 k4, .int .i64 g4] 28 (0, 0))) ⟨HB4.out.alloc HB4.out.size _, by rw [← hbd1]; exact blk_alloc HK14.out (lt_of_block HK14.out), by rw [← hbd2]; exact blk_alloc HK24.out (lt_of_block HK24.out), by rw [← hbd3]; exact blk_alloc HK34.out (lt_of_block HK34.out), by rw [← hbd4]; exact heap_alloc_new _ _⟩ ?_
  rintro W ⟨hbw, hk1, hk2, hk3, hk4⟩
  (first | rw [hbd1] | skip)
  (first | rw [hbd2] | skip)
  (first | rw [hbd3] | skip)
  (first | rw [hbd4] | skip)
  have HBW := Lib.hid hbw
  obtain ⟨x10, x11, x12, -⟩ := blk3 hk1
  have hlt1 := lt_of_block hk1
  obtain ⟨x20, x21, x22, -⟩ := blk3 hk2
  have hlt2 := lt_of_block hk2
  obtain ⟨x30, x31, x32, -⟩ := blk3 hk3
  have hlt3 := lt_of_block hk3
  obtain ⟨x40, x41, x42, -⟩ := blk3 hk4
  have hlt4 := lt_of_block hk4
  have hlx21 : b2 < W.heap.size + 1 := by omega
  have hlx22 : b2 < W.heap.size + 1 + 1 := by omega
  have hlx31 : b3 < W.heap.size + 1 := by omega
  have hlx32 : b3 < W.heap.size + 1 + 1 := by omega
  have hlx33 : b3 < W.heap.size + 1 + 1 + 1 := by omega
  have hlx34 : b3 < W.heap.size + 1 + 1 + 1 + 1 := by omega
  have hlx41 : b4 < W.heap.size + 1 := by omega
  have hlx42 : b4 < W.heap.size + 1 + 1 := by omega
  have hlx43 : b4 < W.heap.size + 1 + 1 + 1 := by omega
  have hlx44 : b4 < W.heap.size + 1 + 1 + 1 + 1 := by omega
  have hlx45 : b4 < W.heap.size + 1 + 1 + 1 + 1 + 1 := by omega
  have hlx46 : b4 < W.heap.size + 1 + 1 + 1 + 1 + 1 + 1 := by omega
  have hlx47 : b4 < W.heap.size + 1 + 1 + 1 + 1 + 1 + 1 + 1 := by omega
  have hlx48 : b4 < W.heap.size + 1 + 1 + 1 + 1 + 1 + 1 + 1 + 1 := by omega
  clear hbw hb1 hb2 hb3 hb4 HF1 HF2 HF3 HF4 HK12 HK13 HK23 HK14 HK24 HK34 hk1 hk2 hk3 hk4 hbd1 hbd2 hbd3 hbd4 HB1 HB2 HB3 HB4
  go_wp2_with fail
  go_ret
  exact ⟨_, rfl, lib_told HBW.out p1 k1 g1 p2 k2 g2 p3 k3 g3 p4 k4 g4, HBW.out.trans ((allocs_below (liO W p1 k1 g1 p2 k2 g2 p3 k3 g3 p4 k4 g4) W).mono HBW.out.size)⟩
set_option maxRecDepth 20000 in
set_option maxHeartbeats 4000000 in
theorem l13Draw_any (b : Nat) (A : Option Addr) (n c : Nat) (bs : List Int) (B : Nat) (w : World) (hI : (srcP 106 b A n c bs B).I w) :
    Calls Try.prog 92 #[.pointer (some ⟨b, 0, none⟩)] w fun e w' => ∃ u, e = .returned u ∧ FamD w' w.heap.size u ∧ BX (srcP 106 b A n c bs B) w.heap.size w w' := by
  have hbw := srcP_lt hI
  have HI := Lib.hid hI
  clear hI
  go_enter Try.func92, Try.ntmps92
  go_wp2_with fail
  go_at_call 110
  with_reducible refine (Library_any _).mono ?_
  rintro e1 w1 ⟨u1, rfl, hlib, hb1⟩
  obtain ⟨gl, rfl, hl0, hl1, hrow⟩ := hlib
  have hs1 := hb1.size
  simp only [World.size_alloc] at hl0 hs1 hrow
  have HB1 : Hid (BX (srcP 106 b A n c bs B) w.heap.size w w1) := Lib.hid (((BX.refl _ _ _).alloc (Nat.le_refl _) _).trans (BX.of_below (hb1.mono (by simp)) (by simp; omega)))
  have HZ1 := Lib.hid (blk_below (heap_alloc_new w (.cells #[.string ⟨#[]⟩, .int .i64 0, .int .i64 0, .int .i64 0, .int .i64 0, .slice none 0 0, .int .i64 0, .slice none 0 0] 34)) hb1 (by simp))
  have HI1 := Lib.hid (HB1.out.inv HI.out)
  clear hb1
  go_wp2_with fail
  go_at_call 93
  with_reducible refine (draw_any b A n c bs B (5) _ HI1.out (by omega)).mono ?_
  rintro e2 w2 ⟨u2, rfl, ⟨r2, rfl, hr2a, hr2b⟩, hb2⟩
  obtain ⟨R, rfl⟩ := Int.eq_ofNat_of_zero_le hr2a
  have hR : R < 5 := by omega
  have hRi : (R : Int) < 5 := by omega
  obtain ⟨s, kind, p, k, gg, col, v1, v2, sz, lv, ⟨d0, d1, d2, d3, d4, d5, d6, d7⟩, hbd, ho1, ho2⟩ := hrow R hR
  have hq := fun j => bxcell hb2 gl j (by simp; omega) hl1
  have q0 := (hq (R * 8)).trans d0
  have q1 := (hq (R * 8 + 1)).trans d1
  have q2 := (hq (R * 8 + 2)).trans d2
  have q3 := (hq (R * 8 + 3)).trans d3
  have q4 := (hq (R * 8 + 4)).trans d4
  have q5 := (hq (R * 8 + 5)).trans d5
  have q6 := (hq (R * 8 + 6)).trans d6
  have q7 := (hq (R * 8 + 7)).trans d7
  have HO1 := Lib.hid (ho1.bx hb2 (by simp; omega))
  have HO2 := Lib.hid (ho2.bx hb2 (by simp; omega))
  have HBD := Lib.hid hbd
  have HB2 := Lib.hid (HB1.out.trans (hb2.mono (by omega)))
  have HZ2 := Lib.hid ((hb2.block w.heap.size (by omega) (by simp; omega)).trans HZ1.out)
  have hs2 := hb2.size
  have hgl2 : gl < w2.heap.size := by omega
  have hwl2 : w.heap.size < w2.heap.size := by omega
  obtain ⟨A1, cp1, rfl, -⟩ := HO1.out.shape
  obtain ⟨A2, cp2, rfl, -⟩ := HO2.out.shape
  obtain ⟨N1, hN1⟩ : ∃ N, sz.length = N := ⟨_, rfl⟩
  obtain ⟨N2, hN2⟩ : ∃ N, lv.length = N := ⟨_, rfl⟩
  rw [hN1] at HO1 q5
  rw [hN2] at HO2 q7
  clear d0 d1 d2 d3 d4 d5 d6 d7 ho1 ho2 hq hbd hrow hb2 hN1 hN2
  obtain ⟨z0, z1, z2, z3, z4, z5, z6, z7, zf⟩ := blk8 HZ2.out
  obtain ⟨s0, s1, s2, s3, s4, s5, s6, s7, -⟩ := blk8 (res8 HZ2.out (.string s) (.int .i64 kind) (.int .i64 p) (.int .i64 k) (.int .i64 gg) (.slice A1 N1 cp1) (.int .i64 col) (.slice A2 N2 cp2))
  go_wp2_with fail
  (try simp only [Exit.inBlock, Exit.then]); refine bodyPost_ret (by simp [results, Try.results92, go_sem, s0, s1, s2, s3, s4, s5, s6, s7]; try rfl) rfl ?_
  exact ⟨_, rfl, ⟨s, kind, p, k, gg, col, _, _, sz, lv, rfl, HBD.out, ((Own.setLt (Own.setLt (Own.setLt (Own.setLt (Own.setLt (Own.setLt (Own.setLt (Own.setLt HO1.out (p := ⟨w.heap.size, 0, none⟩) (Nat.lt_succ_self _) _) (p := ⟨w.heap.size, 1, none⟩) (Nat.lt_succ_self _) _) (p := ⟨w.heap.size, 2, none⟩) (Nat.lt_succ_self _) _) (p := ⟨w.heap.size, 3, none⟩) (Nat.lt_succ_self _) _) (p := ⟨w.heap.size, 4, none⟩) (Nat.lt_succ_self _) _) (p := ⟨w.heap.size, 5, none⟩) (Nat.lt_succ_self _) _) (p := ⟨w.heap.size, 6, none⟩) (Nat.lt_succ_self _) _) (p := ⟨w.heap.size, 7, none⟩) (Nat.lt_succ_self _) _).more (Nat.le_succ _)), ((Own.setLt (Own.setLt (Own.setLt (Own.setLt (Own.setLt (Own.setLt (Own.setLt (Own.setLt HO2.out (p := ⟨w.heap.size, 0, none⟩) (Nat.lt_succ_self _) _) (p := ⟨w.heap.size, 1, none⟩) (Nat.lt_succ_self _) _) (p := ⟨w.heap.size, 2, none⟩) (Nat.lt_succ_self _) _) (p := ⟨w.heap.size, 3, none⟩) (Nat.lt_succ_self _) _) (p := ⟨w.heap.size, 4, none⟩) (Nat.lt_succ_self _) _) (p := ⟨w.heap.size, 5, none⟩) (Nat.lt_succ_self _) _) (p := ⟨w.heap.size, 6, none⟩) (Nat.lt_succ_self _) _) (p := ⟨w.heap.size, 7, none⟩) (Nat.lt_succ_self _) _).more (Nat.le_succ _))⟩, ((((((((HB2.out.setCell (p := ⟨w.heap.size, 0, none⟩) (Nat.le_refl _) hbw _).setCell (p := ⟨w.heap.size, 1, none⟩) (Nat.le_refl _) hbw _).setCell (p := ⟨w.heap.size, 2, none⟩) (Nat.le_refl _) hbw _).setCell (p := ⟨w.heap.size, 3, none⟩) (Nat.le_refl _) hbw _).setCell (p := ⟨w.heap.size, 4, none⟩) (Nat.le_refl _) hbw _).setCell (p := ⟨w.heap.size, 5, none⟩) (Nat.le_refl _) hbw _).setCell (p := ⟨w.heap.size, 6, none⟩) (Nat.le_refl _) hbw _).setCell (p := ⟨w.heap.size, 7, none⟩) (Nat.le_refl _) hbw _)⟩
end Go.Proofs.Ytbgcbjfimjfbpaa
