/-
  Contracts of chapter 15, the reference: the data cells in order.
-/
import Derived.Test.YteghpageamehkaaC14K
import Derived.Test.YteghpageamehkaaC14I
import Derived.Test.YteghpageamehkaaC15D
namespace Go.Proofs.Yteghpageamehkaa
set_option linter.unusedSimpArgs false
open Go.RowKit

set_option maxRecDepth 20000 in
set_option maxHeartbeats 4000000 in
theorem l15Places_any (N : Nat) (w : World) (hN : 17 ≤ N ∧ N ≤ 41 ∧ N % 4 = 1) :
    Calls Try.prog 59 #[.int .i64 N] w fun e w' => ∃ v, e = .returned v ∧ OwnP w' w.heap.size v (dataL N) ∧ Below w.heap.size w w' := by
  have HG := Lib.hid (fun w => l14Grid_any N w hN)
  have HN := Lib.hid hN
  have hN1 := hN.1
  have hN2 := hN.2.1
  have hNN : N * N ≤ 1681 := Nat.mul_le_mul hN2 hN2
  have hN0 : 0 < N * N := Nat.mul_pos (by omega) (by omega)
  have hPD : ∀ rr cc : Nat, rr < N → cc < N → decide (nth (put1 N fmtA (fmtB N) (stdW 0) (fixL N) 15) (rr * N + cc) < 0) = !noD N (rr : Int) (cc : Int) := fun rr cc h1 h2 => by
    have := put_noD (V := 0) hN (r := (rr : Int)) (c := (cc : Int)) ⟨by omega, by omega⟩ ⟨by omega, by omega⟩
    rwa [show ((rr : Int) * N + cc) = ((rr * N + cc : Nat) : Int) by simp, Int.toNat_natCast] at this
  have hLL : (put1 N fmtA (fmtB N) (stdW 0) (fixL N) 15).length = N * N := by rw [put1_len, fixL_len]
  have hPut := fun (b o c : Nat) (w : World) (B : Nat) (hr : RI w B (some ⟨b, o, none⟩) (N * N) (fixL N)) (hB : B ≤ w.heap.size) => l14Put_any N 0 b o c (fixL N) w B hN (by decide) hr hB
  generalize put1 N fmtA (fmtB N) (stdW 0) (fixL N) 15 = L at hPD hLL hPut
  have HPut := Lib.hid hPut
  have HPD := Lib.hid hPD
  have HLL := Lib.hid hLL
  have hfl := Lib.hid (fixL_len N)
  obtain ⟨iP, hi⟩ := info_own' info_places
  have HP := Lib.hid (And.intro iP.bytes.le_refl hi)
  clear hi hN hPut hPD hLL
  go_enter Try.func59, Try.ntmps59
  go_wp2_with fail
  (go_at_call 81; with_reducible refine (HG.out _).mono ?_; rintro e1 w1 ⟨v1, rfl, ho1, hb1⟩; obtain ⟨hc1, hf1⟩ := bcell hb1; have hB1 : Below w.heap.size w w1 := (below_then (by first | (go_grown; done) | (repeat (first | (with_reducible assumption) | (with_reducible exact Below.refl _ _) | (with_reducible refine below_drewN' ?_ _) | (with_reducible refine Below.drew ?_) | ((with_reducible refine Below.alloc ?_ ?_ _); rotate_left; focus (first | (simp; done) | (simp; omega) | omega)) | ((with_reducible refine Below.setCell ?_ ?_ _); rotate_left; focus (first | (simp; done) | (simp; omega) | omega))))) (by first | omega | (simp; done) | (simp; omega)) hb1))
  obtain ⟨ga, ca, rfl, hgaB, hgaw, -, -⟩ := ho1.row (by rw [hfl.out]; exact hN0)
  obtain ⟨A1', c1', e1', hr1⟩ := ho1.shape
  simp only [Value.slice.injEq] at e1'
  obtain ⟨rfl, -, rfl⟩ := e1'
  rw [hfl.out] at hr1 ⊢
  have HR1 := Lib.hid hr1
  have hs1 := hb1.size
  clear ho1 hr1 hc1 hf1
  go_wp2_with fail
  (go_at_call 82; go_call (HPut.out ga 0 ca _ _ HR1.out (Nat.le_refl _)) as e2 w2 ⟨v2, rfl, ho2, hb2⟩; obtain ⟨hc2, hf2⟩ := bcell hb2; have hB2 : Below w.heap.size w w2 := (below_then (by first | (go_grown; done) | (repeat (first | (with_reducible assumption) | (with_reducible exact Below.refl _ _) | (with_reducible refine below_drewN' ?_ _) | (with_reducible refine Below.drew ?_) | ((with_reducible refine Below.alloc ?_ ?_ _); rotate_left; focus (first | (simp; done) | (simp; omega) | omega)) | ((with_reducible refine Below.setCell ?_ ?_ _); rotate_left; focus (first | (simp; done) | (simp; omega) | omega))))) (by first | omega | (simp; done) | (simp; omega)) hb2))
  have hs2 := hb2.size
  obtain ⟨gb, cb, rfl, hgbB, hgbw, -, -⟩ := ho2.row (by rw [HLL.out]; exact hN0)
  obtain ⟨A2', c2', e2', hr2⟩ := ho2.shape
  simp only [Value.slice.injEq] at e2'
  obtain ⟨rfl, -, rfl⟩ := e2'
  rw [HLL.out] at hr2 ⊢
  clear ho2 hc2 hf2
  go_wp2_with fail
  obtain ⟨W2, hW2⟩ : ∃ W2, W2 = w2.alloc (.cells #[.int .i64 (N : Int), .int .i64 (N : Int), .slice (some ⟨gb, 0, none⟩) (N * N) cb] 37) := ⟨_, rfl⟩
  have HG2 : Hid (W2.heap[w2.heap.size]? = some (.cells #[.int .i64 (N : Int), .int .i64 (N : Int), .slice (some ⟨gb, 0, none⟩) (N * N) cb] 37 (0, 0))) := Lib.hid (by rw [hW2]; exact heap_alloc_new _ _)
  have HR2 : Hid (RI W2 W2.heap.size (some ⟨gb, 0, none⟩) (N * N) L) := Lib.hid (by rw [hW2]; exact (hr2.alloc (Nat.le_refl _) _).more (by simp))
  have hgl : w2.heap.size < W2.heap.size := by rw [hW2]; simp
  have hBW : Below w.heap.size w W2 := by rw [hW2]; exact hB2.alloc (by omega) _
  have HE := Lib.hid (OwnP.empty (B := W2.heap.size) W2 (Nat.le_refl _))
  have HEB : Hid (Below W2.heap.size W2 (W2.alloc (.cells #[] 32))) := Lib.hid ((Below.refl _ _).alloc (Nat.le_refl _) _)
  rw [← hW2]
  have hsz2 : (w2.heap.size + 1) = W2.heap.size := by rw [hW2]; simp
  rw [hsz2]
  clear hW2 hr2
  go_loopw [4, 5, 6] (fun out up right wr => ∃ j : Nat, j ≤ (N - 1) / 2 ∧ up = .bool (j % 2 == 0) ∧ right = .int .i64 (headR N j) ∧ Hid (OwnP wr W2.heap.size out (dpL (fun r c => !noD N r c) N j)) ∧ Hid (Below W2.heap.size W2 wr))
    (fun _ _ right _ => (intOf right + 2).toNat)
  case atStart => exact ⟨0, Nat.zero_le _, rfl, by unfold headR; rw [if_pos (by omega)]; go_num, HE, HEB⟩
  case round =>
    obtain ⟨j, hj, rfl, rfl, hown, hbel⟩ := hrel
    have hhp := head_pos (N := N) (j := j) ⟨hN1, HN.out.2.2⟩
    have hha := head_adj (N := N) (j := j) ⟨hN1, HN.out.2.2⟩
    have han := adj_next (N := N) (j := j) ⟨hN1, HN.out.2.2⟩
    have hadr : adjR N j ≤ 41 := by unfold adjR; split <;> omega
    have hhdr : headR N j ≤ 41 := by unfold headR; split <;> omega
    by_cases hlt : j < (N - 1) / 2
    · have hp := hhp.1 hlt
      by_cases h6 : headR N j = 6
      · have hadj : adjR N j = 5 := by rw [hha, if_pos h6]
        rw [h6] at hp ⊢
        clear hha hhp
        go_wp2_with fail
        go_loopw [4, 7, 8, 9] (fun out kk rv cv wr => ∃ k : Nat, k ≤ N ∧ kk = .int .i64 k ∧ Hid (OwnP wr W2.heap.size out (dpL (fun r c => !noD N r c) N j ++ colP (fun r c => !noD N r c) N j (2 * k))) ∧ Hid (Below W2.heap.size W2 wr))
          (fun _ kk _ _ _ => N - (intOf kk).toNat)
        case atStart => exact ⟨0, Nat.zero_le _, rfl, Lib.hid (by simpa [colP] using hown.out), hbel⟩
        case round =>
          obtain ⟨k, hkN, rfl, hown2, hbel2⟩ := hrel
          by_cases hlt2 : k < N
          · cases hpar : (j % 2 == 0)
            · skip
              have hrr0 : plcR N j (2 * k) = (k : Int) := by unfold plcR; rw [if_neg (by simpa using hpar), show 2 * k / 2 = k by omega]
              go_wp2_with fail
              go_loopw [4, 9] (fun out cv wr => ∃ e : Nat, e ≤ 2 ∧ cv = .int .i64 (5 - (e : Int)) ∧ Hid (OwnP wr W2.heap.size out (dpL (fun r c => !noD N r c) N j ++ colP (fun r c => !noD N r c) N j (2 * k + e))) ∧ Hid (Below W2.heap.size W2 wr))
                (fun _ cv _ => (intOf cv - 5 + 2).toNat)
              case atStart => exact ⟨0, Nat.zero_le _, by go_num, Lib.hid (by simpa using hown2.out), hbel2⟩
              case round =>
                obtain ⟨e, he, rfl, hown3, hbel3⟩ := hrel
                by_cases hlt3 : e < 2
                · have hin := plc_in (m := 2 * k + e) HN.out hlt (by omega)
                  have hst : colP (fun r c => !noD N r c) N j (2 * k + e + 1) = colP (fun r c => !noD N r c) N j (2 * k + e) ++ (if !noD N (plcR N j (2 * k + e)) (plcC N j (2 * k + e)) then [(plcR N j (2 * k + e), plcC N j (2 * k + e))] else []) := rfl
                  have HLen := Lib.hid (show (dpL (fun r c => !noD N r c) N j ++ colP (fun r c => !noD N r c) N j (2 * k + e)).length ≤ 100000 by
                    have h1 := dpL_le (fun r c => !noD N r c) N j
                    have h2 := colP_le (fun r c => !noD N r c) N j (2 * k + e)
                    have h3 : j * (2 * N) ≤ 20 * 82 := Nat.mul_le_mul (by omega) (by omega)
                    rw [List.length_append]; omega)
                  have hpl : plcR N j (2 * k + e) = (k : Int) := by
                    have : plcR N j (2 * k + e) = plcR N j (2 * k) := by unfold plcR; rw [show (2 * k + e) / 2 = 2 * k / 2 by omega]
                    rw [this, hrr0]
                  have hpc : plcC N j (2 * k + e) = 5 - (e : Int) := by unfold plcC; rw [hadj, show (2 * k + e) % 2 = e by omega]
                  rw [hpl, hpc] at hin hst
                  obtain ⟨cc, hcc⟩ := Int.eq_ofNat_of_zero_le hin.2.2.1
                  rw [hcc] at hin hst
                  have hr2 : k < N := by omega
                  have hc2 : cc < N := by omega
                  have ea : k * N + cc < N * N := cell_lt hr2 hc2
                  have hpd := HPD.out k cc hr2 hc2
                  obtain ⟨ba, oa, hba, hbb, hcell⟩ := (HR2.out.below hbel3.out).cells (by omega)
                  simp only [Option.some.injEq, Addr.mk.injEq, and_true] at hba
                  obtain ⟨rfl, rfl⟩ := hba
                  have hck := hcell (k * N + cc) ea
                  rw [Nat.zero_add] at hck
                  generalize nth L (k * N + cc) = y at hck hpd
                  have tA : ((k : Int) * N + cc).toNat = k * N + cc := by rw [show ((k : Int) * N + cc) = ((k * N + cc : Nat) : Int) by simp, Int.toNat_natCast]
                  have uA : 0 ≤ (k : Int) * N ∧ (k : Int) * N ≤ 1681 := by
                    have e1 : k * N ≤ N * N := Nat.mul_le_mul_right _ (by omega)
                    have e2 : ((k * N : Nat) : Int) = (k : Int) * N := by simp
                    omega
                  have vA : (k : Int) * N + cc < (N : Int) * N := by
                    have : ((k * N + cc : Nat) : Int) < ((N * N : Nat) : Int) := by omega
                    simpa using this
                  have wA1 : IntKind.i64.wrap ((k : Int) * N) = (k : Int) * N := i64_in (by omega)
                  have wA2 : IntKind.i64.wrap ((k : Int) * N + cc) = (k : Int) * N + cc := i64_in (by omega)
                  have zA : 0 ≤ (k : Int) * N + cc := by omega
                  obtain ⟨y0, y1, y2, -⟩ := blk3 (blk_below HG2.out hbel3.out hgl)
                  have hs3 := hbel3.out.size
                  clear hcell hpl hpc
                  cases hk : noD N (k : Int) (cc : Int)
                  · rw [hk] at hpd hst
                    have hy : y < 0 := by simpa using hpd
                    have hst' := Lib.hid hst
                    clear hst hpd
                    go_wp2_with (at_builtin; refine wpList_append_own_at _ rfl _ _ 26 rfl (W2.heap.size) 32 iP (.agg #[.int .i64 0, .int .i64 0]) 2 16 Try.underlying26 HP.out.2.1 HP.out.2.2.1 HP.out.2.2.2.1 HP.out.2.2.2.2 rfl (by decide) _ _ _ rfl (OwnP.alloc (hown3.out) _) ⟨wr.heap.size, 0, none⟩ 1 1 (pc [((k : Int), (cc : Int))]) rfl rfl (cells_news _ _ _) (pc_ok _) (own_maxP (HLen.out) (by decide)) (own_bytesP (HLen.out) (by decide)) (own_base (hbel3.out.size)) ?_; intro va wa howna hga _ hata; have hoa := OwnP.snoc (qs := [((k : Int), (cc : Int))]) howna rfl; clear howna)
                    have hBa := Lib.hid (OwnP.below_grown hown3.out hbel3.out hbel3.out.size hga)
                    have hOa := Lib.hid (show OwnP wa W2.heap.size va (dpL (fun r c => !noD N r c) N j ++ colP (fun r c => !noD N r c) N j (2 * k + e + 1)) by rw [hst'.out, ← List.append_assoc]; exact hoa)
                    clear hoa hga hata y0 y1 y2
                    go_simp
                    go_wp2_with fail
                    go_roundw
                    case rel => refine ⟨e + 1, by omega, by rw [← hcc]; go_num, ?_⟩; first | exact ⟨hOa, hBa⟩ | exact hOa
                    case measure => simp [intOf]; omega
                  · rw [hk] at hpd hst
                    have hy : ¬ y < 0 := by simpa using hpd
                    have hst' := Lib.hid hst
                    clear hst hpd
                    go_wp2_with fail
                    go_roundw
                    case rel => exact ⟨e + 1, by omega, by rw [← hcc]; go_num, Lib.hid (by rw [show 2 * k + (e + 1) = 2 * k + e + 1 from rfl, hst'.out]; simpa using hown3.out), hbel3⟩
                    case measure => simp [intOf]; omega
                · obtain rfl : e = 2 := by omega
                  go_wp2_with fail
                  go_roundw
                  case rel => exact ⟨k + 1, by omega, by go_num, Lib.hid (by rw [show 2 * (k + 1) = 2 * k + 2 by omega]; exact hown3.out), hbel3⟩
                  case measure => simp [intOf]; omega
            · obtain ⟨rr, hrr⟩ := Int.eq_ofNat_of_zero_le (show 0 ≤ (N : Int) - 1 - k by omega)
              have hrr0 : plcR N j (2 * k) = (rr : Int) := by unfold plcR; rw [if_pos (by simpa using hpar), show 2 * k / 2 = k by omega]; exact hrr
              go_wp2_with fail
              go_loopw [4, 9] (fun out cv wr => ∃ e : Nat, e ≤ 2 ∧ cv = .int .i64 (5 - (e : Int)) ∧ Hid (OwnP wr W2.heap.size out (dpL (fun r c => !noD N r c) N j ++ colP (fun r c => !noD N r c) N j (2 * k + e))) ∧ Hid (Below W2.heap.size W2 wr))
                (fun _ cv _ => (intOf cv - 5 + 2).toNat)
              case atStart => exact ⟨0, Nat.zero_le _, by go_num, Lib.hid (by simpa using hown2.out), hbel2⟩
              case round =>
                obtain ⟨e, he, rfl, hown3, hbel3⟩ := hrel
                by_cases hlt3 : e < 2
                · have hin := plc_in (m := 2 * k + e) HN.out hlt (by omega)
                  have hst : colP (fun r c => !noD N r c) N j (2 * k + e + 1) = colP (fun r c => !noD N r c) N j (2 * k + e) ++ (if !noD N (plcR N j (2 * k + e)) (plcC N j (2 * k + e)) then [(plcR N j (2 * k + e), plcC N j (2 * k + e))] else []) := rfl
                  have HLen := Lib.hid (show (dpL (fun r c => !noD N r c) N j ++ colP (fun r c => !noD N r c) N j (2 * k + e)).length ≤ 100000 by
                    have h1 := dpL_le (fun r c => !noD N r c) N j
                    have h2 := colP_le (fun r c => !noD N r c) N j (2 * k + e)
                    have h3 : j * (2 * N) ≤ 20 * 82 := Nat.mul_le_mul (by omega) (by omega)
                    rw [List.length_append]; omega)
                  have hpl : plcR N j (2 * k + e) = (rr : Int) := by
                    have : plcR N j (2 * k + e) = plcR N j (2 * k) := by unfold plcR; rw [show (2 * k + e) / 2 = 2 * k / 2 by omega]
                    rw [this, hrr0]
                  have hpc : plcC N j (2 * k + e) = 5 - (e : Int) := by unfold plcC; rw [hadj, show (2 * k + e) % 2 = e by omega]
                  rw [hpl, hpc] at hin hst
                  obtain ⟨cc, hcc⟩ := Int.eq_ofNat_of_zero_le hin.2.2.1
                  rw [hcc] at hin hst
                  have hr2 : rr < N := by omega
                  have hc2 : cc < N := by omega
                  have ea : rr * N + cc < N * N := cell_lt hr2 hc2
                  have hpd := HPD.out rr cc hr2 hc2
                  obtain ⟨ba, oa, hba, hbb, hcell⟩ := (HR2.out.below hbel3.out).cells (by omega)
                  simp only [Option.some.injEq, Addr.mk.injEq, and_true] at hba
                  obtain ⟨rfl, rfl⟩ := hba
                  have hck := hcell (rr * N + cc) ea
                  rw [Nat.zero_add] at hck
                  generalize nth L (rr * N + cc) = y at hck hpd
                  have tA : ((rr : Int) * N + cc).toNat = rr * N + cc := by rw [show ((rr : Int) * N + cc) = ((rr * N + cc : Nat) : Int) by simp, Int.toNat_natCast]
                  have uA : 0 ≤ (rr : Int) * N ∧ (rr : Int) * N ≤ 1681 := by
                    have e1 : rr * N ≤ N * N := Nat.mul_le_mul_right _ (by omega)
                    have e2 : ((rr * N : Nat) : Int) = (rr : Int) * N := by simp
                    omega
                  have vA : (rr : Int) * N + cc < (N : Int) * N := by
                    have : ((rr * N + cc : Nat) : Int) < ((N * N : Nat) : Int) := by omega
                    simpa using this
                  have wA1 : IntKind.i64.wrap ((rr : Int) * N) = (rr : Int) * N := i64_in (by omega)
                  have wA2 : IntKind.i64.wrap ((rr : Int) * N + cc) = (rr : Int) * N + cc := i64_in (by omega)
                  have zA : 0 ≤ (rr : Int) * N + cc := by omega
                  obtain ⟨y0, y1, y2, -⟩ := blk3 (blk_below HG2.out hbel3.out hgl)
                  have hs3 := hbel3.out.size
                  clear hcell hpl hpc
                  cases hk : noD N (rr : Int) (cc : Int)
                  · rw [hk] at hpd hst
                    have hy : y < 0 := by simpa using hpd
                    have hst' := Lib.hid hst
                    clear hst hpd
                    go_wp2_with (at_builtin; refine wpList_append_own_at _ rfl _ _ 26 rfl (W2.heap.size) 32 iP (.agg #[.int .i64 0, .int .i64 0]) 2 16 Try.underlying26 HP.out.2.1 HP.out.2.2.1 HP.out.2.2.2.1 HP.out.2.2.2.2 rfl (by decide) _ _ _ rfl (OwnP.alloc (hown3.out) _) ⟨wr.heap.size, 0, none⟩ 1 1 (pc [((rr : Int), (cc : Int))]) rfl rfl (cells_news _ _ _) (pc_ok _) (own_maxP (HLen.out) (by decide)) (own_bytesP (HLen.out) (by decide)) (own_base (hbel3.out.size)) ?_; intro va wa howna hga _ hata; have hoa := OwnP.snoc (qs := [((rr : Int), (cc : Int))]) howna rfl; clear howna)
                    have hBa := Lib.hid (OwnP.below_grown hown3.out hbel3.out hbel3.out.size hga)
                    have hOa := Lib.hid (show OwnP wa W2.heap.size va (dpL (fun r c => !noD N r c) N j ++ colP (fun r c => !noD N r c) N j (2 * k + e + 1)) by rw [hst'.out, ← List.append_assoc]; exact hoa)
                    clear hoa hga hata y0 y1 y2
                    go_simp
                    go_wp2_with fail
                    go_roundw
                    case rel => refine ⟨e + 1, by omega, by rw [← hcc]; go_num, ?_⟩; first | exact ⟨hOa, hBa⟩ | exact hOa
                    case measure => simp [intOf]; omega
                  · rw [hk] at hpd hst
                    have hy : ¬ y < 0 := by simpa using hpd
                    have hst' := Lib.hid hst
                    clear hst hpd
                    go_wp2_with fail
                    go_roundw
                    case rel => exact ⟨e + 1, by omega, by rw [← hcc]; go_num, Lib.hid (by rw [show 2 * k + (e + 1) = 2 * k + e + 1 from rfl, hst'.out]; simpa using hown3.out), hbel3⟩
                    case measure => simp [intOf]; omega
                · obtain rfl : e = 2 := by omega
                  go_wp2_with fail
                  go_roundw
                  case rel => exact ⟨k + 1, by omega, by go_num, Lib.hid (by rw [show 2 * (k + 1) = 2 * k + 2 by omega]; exact hown3.out), hbel3⟩
                  case measure => simp [intOf]; omega
          · have hkN2 : N = k := by omega
            subst hkN2
            have hdp := Lib.hid (show dpL (fun r c => !noD N r c) N (j + 1) = dpL (fun r c => !noD N r c) N j ++ colP (fun r c => !noD N r c) N j (2 * N) from rfl)
            have hpr := Lib.hid (show (!(j % 2 == 0)) = ((j + 1) % 2 == 0) by
              have : j % 2 = 0 ∨ j % 2 = 1 := by omega
              have h2 : (j + 1) % 2 = 1 - j % 2 := by omega
              rw [h2]; rcases this with h | h <;> rw [h] <;> rfl)
            go_wp2_with fail
            go_roundw
            case rel => exact ⟨j + 1, by omega, by rw [← hpr.out], by rw [← han, hadj]; try go_num, Lib.hid (by rw [hdp.out]; exact hown2.out), hbel2⟩
            case measure => simp [intOf]; try omega
      · have hadj : adjR N j = headR N j := by rw [hha, if_neg h6]
        clear hha hhp
        generalize headR N j = H at *
        have h6' : (H == 6) = false := by simpa using h6
        go_wp2_with fail
        go_loopw [4, 7, 8, 9] (fun out kk rv cv wr => ∃ k : Nat, k ≤ N ∧ kk = .int .i64 k ∧ Hid (OwnP wr W2.heap.size out (dpL (fun r c => !noD N r c) N j ++ colP (fun r c => !noD N r c) N j (2 * k))) ∧ Hid (Below W2.heap.size W2 wr))
          (fun _ kk _ _ _ => N - (intOf kk).toNat)
        case atStart => exact ⟨0, Nat.zero_le _, rfl, Lib.hid (by simpa [colP] using hown.out), hbel⟩
        case round =>
          obtain ⟨k, hkN, rfl, hown2, hbel2⟩ := hrel
          by_cases hlt2 : k < N
          · cases hpar : (j % 2 == 0)
            · skip
              have hrr0 : plcR N j (2 * k) = (k : Int) := by unfold plcR; rw [if_neg (by simpa using hpar), show 2 * k / 2 = k by omega]
              go_wp2_with fail
              go_loopw [4, 9] (fun out cv wr => ∃ e : Nat, e ≤ 2 ∧ cv = .int .i64 (H - (e : Int)) ∧ Hid (OwnP wr W2.heap.size out (dpL (fun r c => !noD N r c) N j ++ colP (fun r c => !noD N r c) N j (2 * k + e))) ∧ Hid (Below W2.heap.size W2 wr))
                (fun _ cv _ => (intOf cv - H + 2).toNat)
              case atStart => exact ⟨0, Nat.zero_le _, by go_num, Lib.hid (by simpa using hown2.out), hbel2⟩
              case round =>
                obtain ⟨e, he, rfl, hown3, hbel3⟩ := hrel
                by_cases hlt3 : e < 2
                · have hin := plc_in (m := 2 * k + e) HN.out hlt (by omega)
                  have hst : colP (fun r c => !noD N r c) N j (2 * k + e + 1) = colP (fun r c => !noD N r c) N j (2 * k + e) ++ (if !noD N (plcR N j (2 * k + e)) (plcC N j (2 * k + e)) then [(plcR N j (2 * k + e), plcC N j (2 * k + e))] else []) := rfl
                  have HLen := Lib.hid (show (dpL (fun r c => !noD N r c) N j ++ colP (fun r c => !noD N r c) N j (2 * k + e)).length ≤ 100000 by
                    have h1 := dpL_le (fun r c => !noD N r c) N j
                    have h2 := colP_le (fun r c => !noD N r c) N j (2 * k + e)
                    have h3 : j * (2 * N) ≤ 20 * 82 := Nat.mul_le_mul (by omega) (by omega)
                    rw [List.length_append]; omega)
                  have hpl : plcR N j (2 * k + e) = (k : Int) := by
                    have : plcR N j (2 * k + e) = plcR N j (2 * k) := by unfold plcR; rw [show (2 * k + e) / 2 = 2 * k / 2 by omega]
                    rw [this, hrr0]
                  have hpc : plcC N j (2 * k + e) = H - (e : Int) := by unfold plcC; rw [hadj, show (2 * k + e) % 2 = e by omega]
                  rw [hpl, hpc] at hin hst
                  obtain ⟨cc, hcc⟩ := Int.eq_ofNat_of_zero_le hin.2.2.1
                  rw [hcc] at hin hst
                  have hr2 : k < N := by omega
                  have hc2 : cc < N := by omega
                  have ea : k * N + cc < N * N := cell_lt hr2 hc2
                  have hpd := HPD.out k cc hr2 hc2
                  obtain ⟨ba, oa, hba, hbb, hcell⟩ := (HR2.out.below hbel3.out).cells (by omega)
                  simp only [Option.some.injEq, Addr.mk.injEq, and_true] at hba
                  obtain ⟨rfl, rfl⟩ := hba
                  have hck := hcell (k * N + cc) ea
                  rw [Nat.zero_add] at hck
                  generalize nth L (k * N + cc) = y at hck hpd
                  have tA : ((k : Int) * N + cc).toNat = k * N + cc := by rw [show ((k : Int) * N + cc) = ((k * N + cc : Nat) : Int) by simp, Int.toNat_natCast]
                  have uA : 0 ≤ (k : Int) * N ∧ (k : Int) * N ≤ 1681 := by
                    have e1 : k * N ≤ N * N := Nat.mul_le_mul_right _ (by omega)
                    have e2 : ((k * N : Nat) : Int) = (k : Int) * N := by simp
                    omega
                  have vA : (k : Int) * N + cc < (N : Int) * N := by
                    have : ((k * N + cc : Nat) : Int) < ((N * N : Nat) : Int) := by omega
                    simpa using this
                  have wA1 : IntKind.i64.wrap ((k : Int) * N) = (k : Int) * N := i64_in (by omega)
                  have wA2 : IntKind.i64.wrap ((k : Int) * N + cc) = (k : Int) * N + cc := i64_in (by omega)
                  have zA : 0 ≤ (k : Int) * N + cc := by omega
                  obtain ⟨y0, y1, y2, -⟩ := blk3 (blk_below HG2.out hbel3.out hgl)
                  have hs3 := hbel3.out.size
                  clear hcell hpl hpc
                  cases hk : noD N (k : Int) (cc : Int)
                  · rw [hk] at hpd hst
                    have hy : y < 0 := by simpa using hpd
                    have hst' := Lib.hid hst
                    clear hst hpd
                    go_wp2_with (at_builtin; refine wpList_append_own_at _ rfl _ _ 26 rfl (W2.heap.size) 32 iP (.agg #[.int .i64 0, .int .i64 0]) 2 16 Try.underlying26 HP.out.2.1 HP.out.2.2.1 HP.out.2.2.2.1 HP.out.2.2.2.2 rfl (by decide) _ _ _ rfl (OwnP.alloc (hown3.out) _) ⟨wr.heap.size, 0, none⟩ 1 1 (pc [((k : Int), (cc : Int))]) rfl rfl (cells_news _ _ _) (pc_ok _) (own_maxP (HLen.out) (by decide)) (own_bytesP (HLen.out) (by decide)) (own_base (hbel3.out.size)) ?_; intro va wa howna hga _ hata; have hoa := OwnP.snoc (qs := [((k : Int), (cc : Int))]) howna rfl; clear howna)
                    have hBa := Lib.hid (OwnP.below_grown hown3.out hbel3.out hbel3.out.size hga)
                    have hOa := Lib.hid (show OwnP wa W2.heap.size va (dpL (fun r c => !noD N r c) N j ++ colP (fun r c => !noD N r c) N j (2 * k + e + 1)) by rw [hst'.out, ← List.append_assoc]; exact hoa)
                    clear hoa hga hata y0 y1 y2
                    go_simp
                    go_wp2_with fail
                    go_roundw
                    case rel => refine ⟨e + 1, by omega, by rw [← hcc]; go_num, ?_⟩; first | exact ⟨hOa, hBa⟩ | exact hOa
                    case measure => simp [intOf]; omega
                  · rw [hk] at hpd hst
                    have hy : ¬ y < 0 := by simpa using hpd
                    have hst' := Lib.hid hst
                    clear hst hpd
                    go_wp2_with fail
                    go_roundw
                    case rel => exact ⟨e + 1, by omega, by rw [← hcc]; go_num, Lib.hid (by rw [show 2 * k + (e + 1) = 2 * k + e + 1 from rfl, hst'.out]; simpa using hown3.out), hbel3⟩
                    case measure => simp [intOf]; omega
                · obtain rfl : e = 2 := by omega
                  go_wp2_with fail
                  go_roundw
                  case rel => exact ⟨k + 1, by omega, by go_num, Lib.hid (by rw [show 2 * (k + 1) = 2 * k + 2 by omega]; exact hown3.out), hbel3⟩
                  case measure => simp [intOf]; omega
            · obtain ⟨rr, hrr⟩ := Int.eq_ofNat_of_zero_le (show 0 ≤ (N : Int) - 1 - k by omega)
              have hrr0 : plcR N j (2 * k) = (rr : Int) := by unfold plcR; rw [if_pos (by simpa using hpar), show 2 * k / 2 = k by omega]; exact hrr
              go_wp2_with fail
              go_loopw [4, 9] (fun out cv wr => ∃ e : Nat, e ≤ 2 ∧ cv = .int .i64 (H - (e : Int)) ∧ Hid (OwnP wr W2.heap.size out (dpL (fun r c => !noD N r c) N j ++ colP (fun r c => !noD N r c) N j (2 * k + e))) ∧ Hid (Below W2.heap.size W2 wr))
                (fun _ cv _ => (intOf cv - H + 2).toNat)
              case atStart => exact ⟨0, Nat.zero_le _, by go_num, Lib.hid (by simpa using hown2.out), hbel2⟩
              case round =>
                obtain ⟨e, he, rfl, hown3, hbel3⟩ := hrel
                by_cases hlt3 : e < 2
                · have hin := plc_in (m := 2 * k + e) HN.out hlt (by omega)
                  have hst : colP (fun r c => !noD N r c) N j (2 * k + e + 1) = colP (fun r c => !noD N r c) N j (2 * k + e) ++ (if !noD N (plcR N j (2 * k + e)) (plcC N j (2 * k + e)) then [(plcR N j (2 * k + e), plcC N j (2 * k + e))] else []) := rfl
                  have HLen := Lib.hid (show (dpL (fun r c => !noD N r c) N j ++ colP (fun r c => !noD N r c) N j (2 * k + e)).length ≤ 100000 by
                    have h1 := dpL_le (fun r c => !noD N r c) N j
                    have h2 := colP_le (fun r c => !noD N r c) N j (2 * k + e)
                    have h3 : j * (2 * N) ≤ 20 * 82 := Nat.mul_le_mul (by omega) (by omega)
                    rw [List.length_append]; omega)
                  have hpl : plcR N j (2 * k + e) = (rr : Int) := by
                    have : plcR N j (2 * k + e) = plcR N j (2 * k) := by unfold plcR; rw [show (2 * k + e) / 2 = 2 * k / 2 by omega]
                    rw [this, hrr0]
                  have hpc : plcC N j (2 * k + e) = H - (e : Int) := by unfold plcC; rw [hadj, show (2 * k + e) % 2 = e by omega]
                  rw [hpl, hpc] at hin hst
                  obtain ⟨cc, hcc⟩ := Int.eq_ofNat_of_zero_le hin.2.2.1
                  rw [hcc] at hin hst
                  have hr2 : rr < N := by omega
                  have hc2 : cc < N := by omega
                  have ea : rr * N + cc < N * N := cell_lt hr2 hc2
                  have hpd := HPD.out rr cc hr2 hc2
                  obtain ⟨ba, oa, hba, hbb, hcell⟩ := (HR2.out.below hbel3.out).cells (by omega)
                  simp only [Option.some.injEq, Addr.mk.injEq, and_true] at hba
                  obtain ⟨rfl, rfl⟩ := hba
                  have hck := hcell (rr * N + cc) ea
                  rw [Nat.zero_add] at hck
                  generalize nth L (rr * N + cc) = y at hck hpd
                  have tA : ((rr : Int) * N + cc).toNat = rr * N + cc := by rw [show ((rr : Int) * N + cc) = ((rr * N + cc : Nat) : Int) by simp, Int.toNat_natCast]
                  have uA : 0 ≤ (rr : Int) * N ∧ (rr : Int) * N ≤ 1681 := by
                    have e1 : rr * N ≤ N * N := Nat.mul_le_mul_right _ (by omega)
                    have e2 : ((rr * N : Nat) : Int) = (rr : Int) * N := by simp
                    omega
                  have vA : (rr : Int) * N + cc < (N : Int) * N := by
                    have : ((rr * N + cc : Nat) : Int) < ((N * N : Nat) : Int) := by omega
                    simpa using this
                  have wA1 : IntKind.i64.wrap ((rr : Int) * N) = (rr : Int) * N := i64_in (by omega)
                  have wA2 : IntKind.i64.wrap ((rr : Int) * N + cc) = (rr : Int) * N + cc := i64_in (by omega)
                  have zA : 0 ≤ (rr : Int) * N + cc := by omega
                  obtain ⟨y0, y1, y2, -⟩ := blk3 (blk_below HG2.out hbel3.out hgl)
                  have hs3 := hbel3.out.size
                  clear hcell hpl hpc
                  cases hk : noD N (rr : Int) (cc : Int)
                  · rw [hk] at hpd hst
                    have hy : y < 0 := by simpa using hpd
                    have hst' := Lib.hid hst
                    clear hst hpd
                    go_wp2_with (at_builtin; refine wpList_append_own_at _ rfl _ _ 26 rfl (W2.heap.size) 32 iP (.agg #[.int .i64 0, .int .i64 0]) 2 16 Try.underlying26 HP.out.2.1 HP.out.2.2.1 HP.out.2.2.2.1 HP.out.2.2.2.2 rfl (by decide) _ _ _ rfl (OwnP.alloc (hown3.out) _) ⟨wr.heap.size, 0, none⟩ 1 1 (pc [((rr : Int), (cc : Int))]) rfl rfl (cells_news _ _ _) (pc_ok _) (own_maxP (HLen.out) (by decide)) (own_bytesP (HLen.out) (by decide)) (own_base (hbel3.out.size)) ?_; intro va wa howna hga _ hata; have hoa := OwnP.snoc (qs := [((rr : Int), (cc : Int))]) howna rfl; clear howna)
                    have hBa := Lib.hid (OwnP.below_grown hown3.out hbel3.out hbel3.out.size hga)
                    have hOa := Lib.hid (show OwnP wa W2.heap.size va (dpL (fun r c => !noD N r c) N j ++ colP (fun r c => !noD N r c) N j (2 * k + e + 1)) by rw [hst'.out, ← List.append_assoc]; exact hoa)
                    clear hoa hga hata y0 y1 y2
                    go_simp
                    go_wp2_with fail
                    go_roundw
                    case rel => refine ⟨e + 1, by omega, by rw [← hcc]; go_num, ?_⟩; first | exact ⟨hOa, hBa⟩ | exact hOa
                    case measure => simp [intOf]; omega
                  · rw [hk] at hpd hst
                    have hy : ¬ y < 0 := by simpa using hpd
                    have hst' := Lib.hid hst
                    clear hst hpd
                    go_wp2_with fail
                    go_roundw
                    case rel => exact ⟨e + 1, by omega, by rw [← hcc]; go_num, Lib.hid (by rw [show 2 * k + (e + 1) = 2 * k + e + 1 from rfl, hst'.out]; simpa using hown3.out), hbel3⟩
                    case measure => simp [intOf]; omega
                · obtain rfl : e = 2 := by omega
                  go_wp2_with fail
                  go_roundw
                  case rel => exact ⟨k + 1, by omega, by go_num, Lib.hid (by rw [show 2 * (k + 1) = 2 * k + 2 by omega]; exact hown3.out), hbel3⟩
                  case measure => simp [intOf]; omega
          · have hkN2 : N = k := by omega
            subst hkN2
            have hdp := Lib.hid (show dpL (fun r c => !noD N r c) N (j + 1) = dpL (fun r c => !noD N r c) N j ++ colP (fun r c => !noD N r c) N j (2 * N) from rfl)
            have hpr := Lib.hid (show (!(j % 2 == 0)) = ((j + 1) % 2 == 0) by
              have : j % 2 = 0 ∨ j % 2 = 1 := by omega
              have h2 : (j + 1) % 2 = 1 - j % 2 := by omega
              rw [h2]; rcases this with h | h <;> rw [h] <;> rfl)
            go_wp2_with fail
            go_roundw
            case rel => exact ⟨j + 1, by omega, by rw [← hpr.out], by rw [← han, hadj]; try go_num, Lib.hid (by rw [hdp.out]; exact hown2.out), hbel2⟩
            case measure => simp [intOf]; try omega
    · obtain rfl : j = (N - 1) / 2 := by omega
      have hp := hhp.2 rfl
      generalize headR N ((N - 1) / 2) = H at hp ⊢
      clear hhp hha han hadr hhdr
      go_wp2_with fail
      go_ret
      exact ⟨_, rfl, hown.out.more (by omega), hBW.trans (hbel.out.mono (by omega))⟩
end Go.Proofs.Yteghpageamehkaa
