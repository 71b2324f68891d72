/-
  Contracts of chapter 15, the program: the data cells in order.
-/
import Derived.Test.YtbgcbjfimjfbpaaDp
import Derived.WalkMore
namespace Go.Proofs.Ytbgcbjfimjfbpaa
set_option linter.unusedSimpArgs false
open Go.RowKit

set_option maxRecDepth 20000 in
set_option maxHeartbeats 4000000 in
theorem dataPlaces_any (N : Nat) (w : World) (hN : 17 ≤ N ∧ N ≤ 41 ∧ N % 4 = 1) :
    Calls Try.prog 114 #[.int .i64 N] w fun e w' => ∃ v, e = .returned v ∧ OwnP w' w.heap.size v (dataL N) ∧ Below w.heap.size w w' := by
  have HD := Lib.hid (fun w => noData_any N w hN)
  have HN := Lib.hid hN
  have hN1 := hN.1
  have hN2 := hN.2.1
  obtain ⟨iP, hi⟩ := info_own' info_places
  have HP := Lib.hid (And.intro iP.bytes.le_refl hi)
  clear hi hN
  go_enter Try.func114, Try.ntmps114
  go_wp2_with fail
  (go_at_call 118; with_reducible refine (HD.out _).mono ?_; rintro e1 w1 ⟨b, nb, rfl, hbB, hnb, hM1, hb1⟩; obtain ⟨hc1, hf1⟩ := bcell hb1; have hB1 : Below w.heap.size w w1 := (below_then (by first | (go_grown; done) | (repeat (first | (with_reducible assumption) | (with_reducible exact Below.refl _ _) | (with_reducible refine below_drewN' ?_ _) | (with_reducible refine Below.drew ?_) | ((with_reducible refine Below.alloc ?_ ?_ _); rotate_left; focus (first | (simp; done) | (simp; omega) | omega)) | ((with_reducible refine Below.setCell ?_ ?_ _); rotate_left; focus (first | (simp; done) | (simp; omega) | omega))))) (by first | omega | (simp; done) | (simp; omega)) hb1))
  have hblt := hM1.lt
  have HM1 := Lib.hid hM1
  have hs1 := hb1.size
  have hlook := fun (W : World) (hb : Below w1.heap.size w1 W) (r c : Int) (hr : I64 r) (hc : I64 c) => (hM1.below hb hblt).look hr hc
  have HLK := Lib.hid hlook
  clear hM1 hlook hc1 hf1
  go_wp2_with fail
  have HE := Lib.hid (OwnP.empty (B := w1.heap.size) w1 (Nat.le_refl _))
  go_loopw [4, 5, 6] (fun out up right wr => ∃ j : Nat, j ≤ (N - 1) / 2 ∧ up = .bool (j % 2 == 0) ∧ right = .int .i64 (headR N j) ∧ Hid (OwnP wr w1.heap.size out (dpL (fun r c => !noD N r c) N j)) ∧ Hid (Below w1.heap.size w1 wr))
    (fun _ _ right _ => (intOf right + 2).toNat)
  case atStart => exact ⟨0, Nat.zero_le _, rfl, by unfold headR; rw [if_pos (by omega)]; go_num, HE, Lib.hid (by go_grown)⟩
  case round =>
    obtain ⟨j, hj, rfl, rfl, hown, hbel⟩ := hrel
    have hhp := head_pos (N := N) (j := j) ⟨hN1, HN.out.2.2⟩
    have hha := head_adj (N := N) (j := j) ⟨hN1, HN.out.2.2⟩
    have han := adj_next (N := N) (j := j) ⟨hN1, HN.out.2.2⟩
    have hadr : adjR N j ≤ 41 := by unfold adjR; split <;> omega
    have hhdr : headR N j ≤ 41 := by unfold headR; split <;> omega
    by_cases hlt : j < (N - 1) / 2
    · have hp := hhp.1 hlt
      by_cases h6 : headR N j = 6
      · have hadj : adjR N j = 5 := by rw [hha, if_pos h6]
        rw [h6] at hp ⊢
        clear hha hhp
        go_wp2_with fail
        go_step3
        go_wp2_with fail
        go_step3
        go_wp2_with fail
        go_loopw [4, 7, 8] (fun out kk pv wr => ∃ m : Nat, m ≤ 2 * N ∧ kk = .int .i64 m ∧ Hid (OwnP wr w1.heap.size out (dpL (fun r c => !noD N r c) N j ++ colP (fun r c => !noD N r c) N j m)) ∧ Hid (Below w1.heap.size w1 wr))
          (fun _ kk _ _ => 2 * N - (intOf kk).toNat)
        case atStart => exact ⟨0, Nat.zero_le _, rfl, Lib.hid (by simpa [colP] using hown.out), hbel⟩
        case round =>
          obtain ⟨m, hm, rfl, hown2, hbel2⟩ := hrel
          by_cases hlt2 : m < 2 * N
          · have hin := plc_in (m := m) HN.out hlt hlt2
            have hst : colP (fun r c => !noD N r c) N j (m + 1) = colP (fun r c => !noD N r c) N j m ++ (if !noD N (plcR N j m) (plcC N j m) then [(plcR N j m, plcC N j m)] else []) := rfl
            have HLen := Lib.hid (show (dpL (fun r c => !noD N r c) N j ++ colP (fun r c => !noD N r c) N j m).length ≤ 100000 by
              have h1 := dpL_le (fun r c => !noD N r c) N j
              have h2 := colP_le (fun r c => !noD N r c) N j m
              have h3 : j * (2 * N) ≤ 20 * 82 := Nat.mul_le_mul (by omega) (by omega)
              rw [List.length_append]; omega)
            have hwr := hbel2.out.size
            obtain ⟨q, hq⟩ : ∃ q, m / 2 = q := ⟨_, rfl⟩
            obtain ⟨e, he⟩ : ∃ e, m % 2 = e := ⟨_, rfl⟩
            have he2 : e < 2 := by omega
            have hqi : (m : Int) / 2 = (q : Int) := by omega
            have hei : (m : Int) % 2 = (e : Int) := by omega
            have hq41 : q ≤ 41 := by omega
            cases hpar : (j % 2 == 0)
            · have hpl : plcR N j m = (q : Int) := by unfold plcR; rw [if_neg (by simpa using hpar), hq]
              have hpc : plcC N j m = 5 - (e : Int) := by unfold plcC; rw [hadj, he]
              rw [hpl, hpc] at hin hst
              have hlk := HLK.out (wr.alloc (.cells #[.int .i64 ((q : Int)), .int .i64 (5 - (e : Int))] 142)) (hbel2.out.alloc hbel2.out.size _) ((q : Int)) (5 - (e : Int)) (I64.of (by omega)) (I64.of (by omega))
              cases hk : noD N ((q : Int)) (5 - (e : Int))
              · rw [hk] at hlk hst
                have hst' := Lib.hid hst
                clear hpl hpc hst
                go_wp2_with (at_builtin; refine wpList_append_own_at _ rfl _ _ 131 rfl (w1.heap.size) 142 iP (.agg #[.int .i64 0, .int .i64 0]) 2 16 Try.underlying131 HP.out.2.1 HP.out.2.2.1 HP.out.2.2.2.1 HP.out.2.2.2.2 rfl (by decide) _ _ _ rfl (OwnP.alloc ((OwnP.alloc hown2.out _)) _) ⟨wr.heap.size + 1, 0, none⟩ 1 1 (pc [((q : Int), 5 - (e : Int))]) rfl rfl (cells_news_at _ _ _ (by simp)) (pc_ok _) (own_maxP (HLen.out) (by decide)) (own_bytesP (HLen.out) (by decide)) (own_base ((by simp; omega))) ?_; intro va wa howna hga _ hata; have hoa := OwnP.snoc (qs := [((q : Int), 5 - (e : Int))]) howna rfl; clear howna)
                have hBa := Lib.hid (OwnP.below_grown (OwnP.alloc hown2.out _) (hbel2.out.alloc hbel2.out.size _) (by simp; omega) hga)
                have hOa := Lib.hid (show OwnP wa w1.heap.size va (dpL (fun r c => !noD N r c) N j ++ colP (fun r c => !noD N r c) N j (m + 1)) by rw [hst'.out, ← List.append_assoc]; exact hoa)
                clear hoa hga hata hlk
                go_simp
                go_wp2_with fail
                go_roundw
                case rel => refine ⟨m + 1, by omega, by go_num, ?_⟩; first | exact ⟨hOa, hBa⟩ | exact hOa
                case measure => simp [intOf]; omega
              · rw [hk] at hlk hst
                have hst' := Lib.hid hst
                clear hpl hpc hst
                go_wp2_with fail
                go_roundw
                case rel => exact ⟨m + 1, by omega, by go_num, Lib.hid (by rw [hst'.out]; simpa using (OwnP.alloc hown2.out _)), Lib.hid (hbel2.out.alloc hbel2.out.size _)⟩
                case measure => simp [intOf]; omega

            · have hpl : plcR N j m = (N : Int) - 1 - (q : Int) := by unfold plcR; rw [if_pos (by simpa using hpar), hq]
              have hpc : plcC N j m = 5 - (e : Int) := by unfold plcC; rw [hadj, he]
              rw [hpl, hpc] at hin hst
              have hlk := HLK.out (wr.alloc (.cells #[.int .i64 ((N : Int) - 1 - (q : Int)), .int .i64 (5 - (e : Int))] 142)) (hbel2.out.alloc hbel2.out.size _) ((N : Int) - 1 - (q : Int)) (5 - (e : Int)) (I64.of (by omega)) (I64.of (by omega))
              cases hk : noD N ((N : Int) - 1 - (q : Int)) (5 - (e : Int))
              · rw [hk] at hlk hst
                have hst' := Lib.hid hst
                clear hpl hpc hst
                go_wp2_with (at_builtin; refine wpList_append_own_at _ rfl _ _ 131 rfl (w1.heap.size) 142 iP (.agg #[.int .i64 0, .int .i64 0]) 2 16 Try.underlying131 HP.out.2.1 HP.out.2.2.1 HP.out.2.2.2.1 HP.out.2.2.2.2 rfl (by decide) _ _ _ rfl (OwnP.alloc ((OwnP.alloc hown2.out _)) _) ⟨wr.heap.size + 1, 0, none⟩ 1 1 (pc [((N : Int) - 1 - (q : Int), 5 - (e : Int))]) rfl rfl (cells_news_at _ _ _ (by simp)) (pc_ok _) (own_maxP (HLen.out) (by decide)) (own_bytesP (HLen.out) (by decide)) (own_base ((by simp; omega))) ?_; intro va wa howna hga _ hata; have hoa := OwnP.snoc (qs := [((N : Int) - 1 - (q : Int), 5 - (e : Int))]) howna rfl; clear howna)
                have hBa := Lib.hid (OwnP.below_grown (OwnP.alloc hown2.out _) (hbel2.out.alloc hbel2.out.size _) (by simp; omega) hga)
                have hOa := Lib.hid (show OwnP wa w1.heap.size va (dpL (fun r c => !noD N r c) N j ++ colP (fun r c => !noD N r c) N j (m + 1)) by rw [hst'.out, ← List.append_assoc]; exact hoa)
                clear hoa hga hata hlk
                go_simp
                go_wp2_with fail
                go_roundw
                case rel => refine ⟨m + 1, by omega, by go_num, ?_⟩; first | exact ⟨hOa, hBa⟩ | exact hOa
                case measure => simp [intOf]; omega
              · rw [hk] at hlk hst
                have hst' := Lib.hid hst
                clear hpl hpc hst
                go_wp2_with fail
                go_roundw
                case rel => exact ⟨m + 1, by omega, by go_num, Lib.hid (by rw [hst'.out]; simpa using (OwnP.alloc hown2.out _)), Lib.hid (hbel2.out.alloc hbel2.out.size _)⟩
                case measure => simp [intOf]; omega

          · obtain rfl : m = 2 * N := by omega
            have hdp := Lib.hid (show dpL (fun r c => !noD N r c) N (j + 1) = dpL (fun r c => !noD N r c) N j ++ colP (fun r c => !noD N r c) N j (2 * N) from rfl)
            have hpr := Lib.hid (show (!(j % 2 == 0)) = ((j + 1) % 2 == 0) by
              have : j % 2 = 0 ∨ j % 2 = 1 := by omega
              have h2 : (j + 1) % 2 = 1 - j % 2 := by omega
              rw [h2]; rcases this with h | h <;> rw [h] <;> rfl)
            go_wp2_with fail
            rw [Exit.noGoto_normal]
            go_wp2_with fail
            go_roundw
            case rel => exact ⟨j + 1, by omega, by rw [← hpr.out], by rw [← han, hadj]; try go_num, Lib.hid (by rw [hdp.out]; exact hown2.out), hbel2⟩
            case measure => simp [intOf]; try omega

      · have hadj : adjR N j = headR N j := by rw [hha, if_neg h6]
        clear hha hhp
        generalize headR N j = H at *
        have h6' : (H == 6) = false := by simpa using h6
        go_wp2_with fail
        go_step3
        go_wp2_with fail
        go_step3
        go_wp2_with fail
        go_loopw [4, 7, 8] (fun out kk pv wr => ∃ m : Nat, m ≤ 2 * N ∧ kk = .int .i64 m ∧ Hid (OwnP wr w1.heap.size out (dpL (fun r c => !noD N r c) N j ++ colP (fun r c => !noD N r c) N j m)) ∧ Hid (Below w1.heap.size w1 wr))
          (fun _ kk _ _ => 2 * N - (intOf kk).toNat)
        case atStart => exact ⟨0, Nat.zero_le _, rfl, Lib.hid (by simpa [colP] using hown.out), hbel⟩
        case round =>
          obtain ⟨m, hm, rfl, hown2, hbel2⟩ := hrel
          by_cases hlt2 : m < 2 * N
          · have hin := plc_in (m := m) HN.out hlt hlt2
            have hst : colP (fun r c => !noD N r c) N j (m + 1) = colP (fun r c => !noD N r c) N j m ++ (if !noD N (plcR N j m) (plcC N j m) then [(plcR N j m, plcC N j m)] else []) := rfl
            have HLen := Lib.hid (show (dpL (fun r c => !noD N r c) N j ++ colP (fun r c => !noD N r c) N j m).length ≤ 100000 by
              have h1 := dpL_le (fun r c => !noD N r c) N j
              have h2 := colP_le (fun r c => !noD N r c) N j m
              have h3 : j * (2 * N) ≤ 20 * 82 := Nat.mul_le_mul (by omega) (by omega)
              rw [List.length_append]; omega)
            have hwr := hbel2.out.size
            obtain ⟨q, hq⟩ : ∃ q, m / 2 = q := ⟨_, rfl⟩
            obtain ⟨e, he⟩ : ∃ e, m % 2 = e := ⟨_, rfl⟩
            have he2 : e < 2 := by omega
            have hqi : (m : Int) / 2 = (q : Int) := by omega
            have hei : (m : Int) % 2 = (e : Int) := by omega
            have hq41 : q ≤ 41 := by omega
            cases hpar : (j % 2 == 0)
            · have hpl : plcR N j m = (q : Int) := by unfold plcR; rw [if_neg (by simpa using hpar), hq]
              have hpc : plcC N j m = H - (e : Int) := by unfold plcC; rw [hadj, he]
              rw [hpl, hpc] at hin hst
              have hlk := HLK.out (wr.alloc (.cells #[.int .i64 ((q : Int)), .int .i64 (H - (e : Int))] 142)) (hbel2.out.alloc hbel2.out.size _) ((q : Int)) (H - (e : Int)) (I64.of (by omega)) (I64.of (by omega))
              cases hk : noD N ((q : Int)) (H - (e : Int))
              · rw [hk] at hlk hst
                have hst' := Lib.hid hst
                clear hpl hpc hst
                go_wp2_with (at_builtin; refine wpList_append_own_at _ rfl _ _ 131 rfl (w1.heap.size) 142 iP (.agg #[.int .i64 0, .int .i64 0]) 2 16 Try.underlying131 HP.out.2.1 HP.out.2.2.1 HP.out.2.2.2.1 HP.out.2.2.2.2 rfl (by decide) _ _ _ rfl (OwnP.alloc ((OwnP.alloc hown2.out _)) _) ⟨wr.heap.size + 1, 0, none⟩ 1 1 (pc [((q : Int), H - (e : Int))]) rfl rfl (cells_news_at _ _ _ (by simp)) (pc_ok _) (own_maxP (HLen.out) (by decide)) (own_bytesP (HLen.out) (by decide)) (own_base ((by simp; omega))) ?_; intro va wa howna hga _ hata; have hoa := OwnP.snoc (qs := [((q : Int), H - (e : Int))]) howna rfl; clear howna)
                have hBa := Lib.hid (OwnP.below_grown (OwnP.alloc hown2.out _) (hbel2.out.alloc hbel2.out.size _) (by simp; omega) hga)
                have hOa := Lib.hid (show OwnP wa w1.heap.size va (dpL (fun r c => !noD N r c) N j ++ colP (fun r c => !noD N r c) N j (m + 1)) by rw [hst'.out, ← List.append_assoc]; exact hoa)
                clear hoa hga hata hlk
                go_simp
                go_wp2_with fail
                go_roundw
                case rel => refine ⟨m + 1, by omega, by go_num, ?_⟩; first | exact ⟨hOa, hBa⟩ | exact hOa
                case measure => simp [intOf]; omega
              · rw [hk] at hlk hst
                have hst' := Lib.hid hst
                clear hpl hpc hst
                go_wp2_with fail
                go_roundw
                case rel => exact ⟨m + 1, by omega, by go_num, Lib.hid (by rw [hst'.out]; simpa using (OwnP.alloc hown2.out _)), Lib.hid (hbel2.out.alloc hbel2.out.size _)⟩
                case measure => simp [intOf]; omega

            · have hpl : plcR N j m = (N : Int) - 1 - (q : Int) := by unfold plcR; rw [if_pos (by simpa using hpar), hq]
              have hpc : plcC N j m = H - (e : Int) := by unfold plcC; rw [hadj, he]
              rw [hpl, hpc] at hin hst
              have hlk := HLK.out (wr.alloc (.cells #[.int .i64 ((N : Int) - 1 - (q : Int)), .int .i64 (H - (e : Int))] 142)) (hbel2.out.alloc hbel2.out.size _) ((N : Int) - 1 - (q : Int)) (H - (e : Int)) (I64.of (by omega)) (I64.of (by omega))
              cases hk : noD N ((N : Int) - 1 - (q : Int)) (H - (e : Int))
              · rw [hk] at hlk hst
                have hst' := Lib.hid hst
                clear hpl hpc hst
                go_wp2_with (at_builtin; refine wpList_append_own_at _ rfl _ _ 131 rfl (w1.heap.size) 142 iP (.agg #[.int .i64 0, .int .i64 0]) 2 16 Try.underlying131 HP.out.2.1 HP.out.2.2.1 HP.out.2.2.2.1 HP.out.2.2.2.2 rfl (by decide) _ _ _ rfl (OwnP.alloc ((OwnP.alloc hown2.out _)) _) ⟨wr.heap.size + 1, 0, none⟩ 1 1 (pc [((N : Int) - 1 - (q : Int), H - (e : Int))]) rfl rfl (cells_news_at _ _ _ (by simp)) (pc_ok _) (own_maxP (HLen.out) (by decide)) (own_bytesP (HLen.out) (by decide)) (own_base ((by simp; omega))) ?_; intro va wa howna hga _ hata; have hoa := OwnP.snoc (qs := [((N : Int) - 1 - (q : Int), H - (e : Int))]) howna rfl; clear howna)
                have hBa := Lib.hid (OwnP.below_grown (OwnP.alloc hown2.out _) (hbel2.out.alloc hbel2.out.size _) (by simp; omega) hga)
                have hOa := Lib.hid (show OwnP wa w1.heap.size va (dpL (fun r c => !noD N r c) N j ++ colP (fun r c => !noD N r c) N j (m + 1)) by rw [hst'.out, ← List.append_assoc]; exact hoa)
                clear hoa hga hata hlk
                go_simp
                go_wp2_with fail
                go_roundw
                case rel => refine ⟨m + 1, by omega, by go_num, ?_⟩; first | exact ⟨hOa, hBa⟩ | exact hOa
                case measure => simp [intOf]; omega
              · rw [hk] at hlk hst
                have hst' := Lib.hid hst
                clear hpl hpc hst
                go_wp2_with fail
                go_roundw
                case rel => exact ⟨m + 1, by omega, by go_num, Lib.hid (by rw [hst'.out]; simpa using (OwnP.alloc hown2.out _)), Lib.hid (hbel2.out.alloc hbel2.out.size _)⟩
                case measure => simp [intOf]; omega

          · obtain rfl : m = 2 * N := by omega
            have hdp := Lib.hid (show dpL (fun r c => !noD N r c) N (j + 1) = dpL (fun r c => !noD N r c) N j ++ colP (fun r c => !noD N r c) N j (2 * N) from rfl)
            have hpr := Lib.hid (show (!(j % 2 == 0)) = ((j + 1) % 2 == 0) by
              have : j % 2 = 0 ∨ j % 2 = 1 := by omega
              have h2 : (j + 1) % 2 = 1 - j % 2 := by omega
              rw [h2]; rcases this with h | h <;> rw [h] <;> rfl)
            go_wp2_with fail
            rw [Exit.noGoto_normal]
            go_wp2_with fail
            go_roundw
            case rel => exact ⟨j + 1, by omega, by rw [← hpr.out], by rw [← han, hadj]; try go_num, Lib.hid (by rw [hdp.out]; exact hown2.out), hbel2⟩
            case measure => simp [intOf]; try omega

    · obtain rfl : j = (N - 1) / 2 := by omega
      have hp := hhp.2 rfl
      generalize headR N ((N - 1) / 2) = H at hp ⊢
      clear hhp hha han hadr hhdr
      go_wp2_with fail
      go_ret
      exact ⟨_, rfl, hown.out.more hs1, hB1.trans (hbel.out.mono hs1)⟩
end Go.Proofs.Ytbgcbjfimjfbpaa
