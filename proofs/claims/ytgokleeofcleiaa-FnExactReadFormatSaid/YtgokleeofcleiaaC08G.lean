/-
  Contracts of chapter 8: the minimum distance, the laws' conversion of a code.
-/
import Derived.Test.YtgokleeofcleiaaC08F
namespace Go.Proofs.Ytgokleeofcleiaa
open Go.RowKit

set_option maxHeartbeats 1000000 in
theorem l01Differ_any (A1 A2 : Option Addr) (n c1 c2 : Nat) (xs ys : List Int) (w : World) (B1 B2 : Nat) (hr1 : RI w B1 A1 n xs) (hr2 : RI w B2 A2 n ys) (hn : n ≤ 1000000000000) :
    Calls Try.prog 117 #[.slice A1 n c1, .slice A2 n c2] w fun e w' => e = .returned (.int .i64 (differL xs ys)) ∧ ∃ m, w' = w.drewN m := by
  have hl1 := Lib.hid hr1.len
  have hl2 := Lib.hid hr2.len
  have HE : Hid (xs.length = ys.length) := Lib.hid (hl1.out.trans hl2.out.symm)
  have H1 := Lib.hid hr1
  have H2 := Lib.hid hr2
  clear hr1 hr2
  go_enter Try.func117, Try.ntmps117
  go_wp2_with fail
  go_loopw [5, 6] (fun q i wr => ∃ k : Nat, k ≤ n ∧ i = .int .i64 k ∧ q = .int .i64 (differL (xs.take k) (ys.take k)) ∧ Hid (∃ m, wr = w.drewN m)) (fun _ i _ => n - (intOf i).toNat)
  case atStart => exact ⟨0, Nat.zero_le _, rfl, rfl, ⟨0, rfl⟩⟩
  case round =>
    obtain ⟨k, hk, rfl, rfl, hw⟩ := hrel
    have hdl : differL (xs.take k) (ys.take k) ≤ k := Nat.le_trans (differ_le _ _) (List.length_take_le _ _)
    by_cases hlt : k < n
    · obtain ⟨b, o, rfl, hb, hc⟩ := H1.out.cells (by omega)
      obtain ⟨b', o', rfl, hb', hc'⟩ := H2.out.cells (by omega)
      have hck : wr.cell? ⟨b, o + k, none⟩ = some (.int .i64 (nth xs k)) := by
        obtain ⟨m, rfl⟩ := hw.out
        exact hc k hlt
      have hck' : wr.cell? ⟨b', o' + k, none⟩ = some (.int .i64 (nth ys k)) := by
        obtain ⟨m, rfl⟩ := hw.out
        exact hc' k hlt
      have hsn := differ_snoc HE.out (k := k) (by have := hl1.out; omega)
      clear hc hc' hb hb'
      by_cases he : nth xs k = nth ys k
      · have hne : (nth xs k != nth ys k) = false := by simpa using he
        rw [if_pos he] at hsn
        have HN := Lib.hid hsn
        clear he hsn
        go_wp2_with fail
        go_quiet (fail)
        go_wp2_with fail
        go_roundw
        case rel => exact ⟨k + 1, by omega, by go_num, by rw [HN.out]; go_num, by obtain ⟨m, hm⟩ := hw.out; exact ⟨m + nq, by rw [hm]; exact drewN_two w m nq⟩⟩
        case measure => simp [intOf]; omega
      · have hne : (nth xs k != nth ys k) = true := by simpa using he
        rw [if_neg he] at hsn
        have HN := Lib.hid hsn
        clear he hsn
        go_wp2_with fail
        go_quiet (fail)
        go_wp2_with fail
        go_roundw
        case rel => exact ⟨k + 1, by omega, by go_num, by rw [HN.out]; go_num, by obtain ⟨m, hm⟩ := hw.out; exact ⟨m + nq, by rw [hm]; exact drewN_two w m nq⟩⟩
        case measure => simp [intOf]; omega
    · have hkn : k = n := by omega
      have hfin : differL (xs.take k) (ys.take k) = differL xs ys := by
        rw [hkn, List.take_of_length_le (by have := hl1.out; omega), List.take_of_length_le (by have := hl2.out; omega)]
      have HF := Lib.hid hfin
      clear hfin hkn
      go_wp2_with fail
      go_ret
      exact ⟨ret_int (by rw [HF.out]), hw.out⟩
set_option maxHeartbeats 1000000 in
theorem l08Minimum_any (D k P : Nat) (w : World) (hD0 : 1 ≤ D) (hD : D ≤ 8) (hk0 : 1 ≤ k) (hk : D + k ≤ 24) (hp : polyOk P k) :
    Calls Try.prog 113 #[.agg #[.int .i64 D, .int .i64 ((D : Int) + k), .int .i64 P]] w fun e w' =>
      e = .returned (.int .i64 (minD D (D + k) P (2 ^ D))) ∧ Below w.heap.size w w' := by
  have HP := Lib.hid hp
  clear hp
  have hpw := pow_bd (k := D) (by omega)
  have hpe : ((2 ^ D : Nat) : Int) = (2 : Int) ^ D := by simp
  have HPE := Lib.hid hpe
  clear hpe
  go_enter Try.func113, Try.ntmps113
  go_wp2_with fail
  refine (l08Word_any D k P 0 _ hD0 hD hk0 (by omega) HP.out (Nat.two_pow_pos _)).mono ?_
  rintro e0 w0 ⟨v0, rfl, ho0, hb0⟩
  rw [fword_zero] at ho0
  have h0 : Below (w.heap.size + 1) (w.alloc (.cells #[.int .i64 D, .int .i64 ((D : Int) + k), .int .i64 P] 76)) w0 := by simpa using hb0
  obtain ⟨A0, c0, rfl, hr0⟩ := ho0.shape
  rw [bitsL_len] at hr0 ⊢
  have HR0 := Lib.hid hr0
  have H0 := Lib.hid h0
  clear ho0 hb0 hr0 h0
  go_wp2_with fail
  go_loopw [3, 5] (fun q a wr => ∃ v : Nat, 1 ≤ v ∧ v ≤ 2 ^ D ∧ a = .int .i64 v ∧ q = .int .i64 (minD D (D + k) P v) ∧ Hid (Below w0.heap.size w0 wr))
    (fun _ a _ => 2 ^ D - (intOf a).toNat)
  case atStart => exact ⟨1, Nat.le_refl _, Nat.one_le_two_pow, rfl, by rw [minD_one]; go_num, Below.refl _ _⟩
  case round =>
    obtain ⟨v, hv1, hv2, rfl, rfl, hbw⟩ := hrel
    have hb := Lib.hid (H0.out.trans (hbw.out.mono (by have := H0.out.size; simpa using this)))
    have k0 : wr.cell? ⟨w.heap.size, 0, none⟩ = some (.int .i64 D) := (hb.out.cell (by simp)).trans (by go_simp)
    have k1 : wr.cell? ⟨w.heap.size, 1, none⟩ = some (.int .i64 ((D : Int) + k)) := (hb.out.cell (by simp)).trans (by go_simp)
    have k2 : wr.cell? ⟨w.heap.size, 2, none⟩ = some (.int .i64 P) := (hb.out.cell (by simp)).trans (by go_simp)
    have hml := minD_le D (D + k) P v
    by_cases hlt : v < 2 ^ D
    · have hlt' : (v : Int) < 2 ^ D := by rw [← HPE.out]; omega
      have hstep := minD_step D (D + k) P v hv1
      rw [← differ_zero] at hstep
      obtain ⟨c, hc⟩ : ∃ c, c = differL (bitsL (D + k) (fword D (D + k) P v)) (bitsL (D + k) 0) := ⟨_, rfl⟩
      have hc24 : c ≤ 24 := by rw [hc]; exact Nat.le_trans (differ_le _ _) (by rw [bitsL_len]; omega)
      rw [← hc] at hstep
      have HC := Lib.hid hc
      have HST := Lib.hid hstep
      have HLT := Lib.hid hlt
      clear hc hstep
      go_wp2_with fail
      refine (l08Word_any D k P v _ hD0 hD hk0 (by omega) HP.out HLT.out).mono ?_
      rintro e1 w1 ⟨v1, rfl, ho1, hb1⟩
      obtain ⟨A1, c1, rfl, hr1⟩ := ho1.shape
      rw [bitsL_len] at hr1 ⊢
      have HB1 := Lib.hid (hbw.out.trans (hb1.mono hbw.out.size))
      have HR1 := Lib.hid hr1
      clear ho1 hb1 hr1
      go_wp2_with fail
      refine (l01Differ_any A1 A0 (D + k) c1 c0 _ _ _ _ _ HR1.out (HR0.out.below HB1.out) (by omega)).mono ?_
      rintro e2 w2 ⟨rfl, m2, rfl⟩
      rw [← HC.out]
      go_wp2_with fail
      go_roundw
      case rel => exact ⟨v + 1, by omega, by omega, by go_num, by rw [HST.out]; go_num, below_drewN' HB1.out _⟩
      case measure => simp [intOf]; omega
    · have hlt' : ¬ (v : Int) < 2 ^ D := by rw [← HPE.out]; omega
      have hve : v = 2 ^ D := by omega
      have HV := Lib.hid hve
      clear hve
      go_wp2_with fail
      go_ret
      exact ⟨ret_int (by rw [← HV.out]), (Below.refl _ _).alloc (Nat.le_refl _) _ |>.trans (hb.out.mono (by omega))⟩
/-- The minimum distance, and the code. -/
def fdC (d l p : Int) : Int := if fcodeB d l p then 0 else 1
def fdV (d l p : Int) : Int := if fcodeB d l p then minD d.toNat l.toNat p.toNat (2 ^ d.toNat) else 0
theorem fd_no {d l p : Int} (h : fcodeB d l p = false) : fdC d l p = 1 ∧ fdV d l p = 0 := by unfold fdC fdV; simp [h]
theorem fd_yes {D k P : Nat} (h : fcodeB D ((D : Int) + k) P = true) : fdC D ((D : Int) + k) P = 0 ∧ fdV D ((D : Int) + k) P = minD D (D + k) P (2 ^ D) := by
  refine ⟨by unfold fdC; simp [h], ?_⟩
  unfold fdV; rw [if_pos h, show ((D : Int) + k).toNat = D + k by omega]; rfl
end Go.Proofs.Ytgokleeofcleiaa
