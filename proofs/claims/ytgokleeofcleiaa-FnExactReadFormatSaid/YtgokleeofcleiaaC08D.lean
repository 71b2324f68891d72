/-
  Contracts of chapter 8: bits counted, distances.
-/
import Derived.Test.YtgokleeofcleiaaC08
import Derived.Laws.Bits128
namespace Go.Proofs.Ytgokleeofcleiaa
open Go.RowKit

theorem u64_and_ex {x m : Nat} (hx : x < 18446744073709551616) (hm : m < 18446744073709551616) : bits .and .u64 (x : Int) (m : Int) = ((x &&& m : Nat) : Int) := u64_and_nat x m hx hm
theorem mk8_8 : mk8 85 8 = 6148914691236517205 ∧ mk8 51 8 = 3689348814741910323 ∧ mk8 15 8 = 1085102592571150095 := by decide +kernel
set_option maxHeartbeats 1000000 in
theorem ones64_any (X : Nat) (w : World) (hX : X < 16777216) :
    Calls Try.prog 114 #[.int .u64 X] w fun e w' => e = .returned (.int .i64 (popc 24 X)) ∧ w = w' := by
  obtain ⟨m1, m2, m3⟩ := mk8_8
  obtain ⟨p, q, r, hp, hq, hr, h1, h2⟩ := st3_24 X hX
  have hsw := swar_popc X hX
  unfold swar at hsw
  unfold st3 at h1 hsw
  obtain ⟨a1, ha1⟩ : ∃ a, X / 2 &&& mk8 85 8 = a := ⟨_, rfl⟩
  obtain ⟨a2, ha2⟩ : ∃ a, X &&& mk8 85 8 = a := ⟨_, rfl⟩
  have e1 : stA 8 X = a1 + a2 := by unfold stA; rw [ha1, ha2]
  have l1 : a1 ≤ X / 2 := by rw [← ha1]; exact Nat.and_le_left
  have l2 : a2 ≤ X := by rw [← ha2]; exact Nat.and_le_left
  rw [e1] at h1 hsw
  obtain ⟨b1, hb1⟩ : ∃ a, (a1 + a2) / 4 &&& mk8 51 8 = a := ⟨_, rfl⟩
  obtain ⟨b2, hb2⟩ : ∃ a, (a1 + a2) &&& mk8 51 8 = a := ⟨_, rfl⟩
  have e2 : stB 8 (a1 + a2) = b1 + b2 := by unfold stB; rw [hb1, hb2]
  have l3 : b1 ≤ (a1 + a2) / 4 := by rw [← hb1]; exact Nat.and_le_left
  have l4 : b2 ≤ a1 + a2 := by rw [← hb2]; exact Nat.and_le_left
  rw [e2] at h1 hsw
  obtain ⟨c, hc⟩ : ∃ a, ((b1 + b2) / 16 + (b1 + b2)) &&& mk8 15 8 = a := ⟨_, rfl⟩
  have e3 : stC 8 (b1 + b2) = c := by unfold stC; rw [hc]
  have l5 : c ≤ (b1 + b2) / 16 + (b1 + b2) := by rw [← hc]; exact Nat.and_le_left
  rw [e3] at h1 hsw
  rw [m1] at ha1 ha2
  rw [m2] at hb1 hb2
  rw [m3] at hc
  have f1 : bits .and .u64 ((X : Int) / 2) 6148914691236517205 = (a1 : Int) := by
    rw [← ha1, show ((X : Int) / 2) = ((X / 2 : Nat) : Int) by simp]; exact u64_and_ex (by omega) (by decide)
  have f2 : bits .and .u64 (X : Int) 6148914691236517205 = (a2 : Int) := by
    rw [← ha2]; exact u64_and_ex (by omega) (by decide)
  have f3 : bits .and .u64 (((a1 : Int) + a2) / 4) 3689348814741910323 = (b1 : Int) := by
    rw [← hb1, show (((a1 : Int) + a2) / 4) = (((a1 + a2) / 4 : Nat) : Int) by simp]; exact u64_and_ex (by omega) (by decide)
  have f4 : bits .and .u64 ((a1 : Int) + a2) 3689348814741910323 = (b2 : Int) := by
    rw [← hb2, show ((a1 : Int) + a2) = ((a1 + a2 : Nat) : Int) by simp]; exact u64_and_ex (by omega) (by decide)
  have f5 : bits .and .u64 (((b1 : Int) + b2) / 16 + ((b1 : Int) + b2)) 1085102592571150095 = (c : Int) := by
    rw [← hc, show (((b1 : Int) + b2) / 16 + ((b1 : Int) + b2)) = (((b1 + b2) / 16 + (b1 + b2) : Nat) : Int) by simp]; exact u64_and_ex (by omega) (by decide)
  clear ha1 ha2 hb1 hb2 hc e1 e2 e3 m1 m2 m3
  have hc0 : c ≤ 16777216 := by omega
  have HS := Lib.hid hsw
  clear hsw h1 h2 hp hq hr p q r
  go_enter Try.func114, Try.ntmps114
  go_wp2_with fail
  go_ret
  exact ⟨ret_int (by rw [i64_and127, ← HS.out]; simp), rfl⟩
theorem popc_24 {D k P v : Nat} (hk : D + k ≤ 24) (hp : polyOk P k) (hv : v < 2 ^ D) : popc 24 (fword D (D + k) P v) = popc (D + k) (fword D (D + k) P v) ∧ fword D (D + k) P v < 16777216 := by
  have h := fword_lt (D := D) (L := D + k) (P := P) (v := v) (by omega) (by rw [Nat.add_sub_cancel_left]; exact hp) hv
  refine ⟨?_, ?_⟩
  · have := popc_more h (24 - (D + k))
    rwa [show D + k + (24 - (D + k)) = 24 by omega] at this
  · have hle : 2 ^ (D + k) ≤ 2 ^ 24 := Nat.pow_le_pow_right (by decide) hk
    omega
theorem min_nat (a b : Nat) : (min (a : Int) (b : Int)) = ((min a b : Nat) : Int) := by omega
set_option maxHeartbeats 1000000 in
theorem distance8_any (D k P : Nat) (w : World) (hD0 : 1 ≤ D) (hD : D ≤ 8) (hk0 : 1 ≤ k) (hk : D + k ≤ 24) (hp : polyOk P k) :
    Calls Try.prog 115 #[.agg #[.int .i64 D, .int .i64 ((D : Int) + k), .int .i64 P]] w fun e w' =>
      e = .returned (.int .i64 (minD D (D + k) P (2 ^ D))) ∧ Below w.heap.size w w' := by
  have HP := Lib.hid hp
  clear hp
  have hpw := pow_bd (k := D) (by omega)
  have hpe : ((2 ^ D : Nat) : Int) = (2 : Int) ^ D := by simp
  have HPE := Lib.hid hpe
  clear hpe
  go_enter Try.func115, Try.ntmps115
  go_wp2_with fail
  go_loopw [3, 4] (fun q a wr => ∃ v : Nat, 1 ≤ v ∧ v ≤ 2 ^ D ∧ a = .int .i64 v ∧ q = .int .i64 (minD D (D + k) P v) ∧ Hid (Below (w.heap.size + 1) (w.alloc (.cells #[.int .i64 D, .int .i64 ((D : Int) + k), .int .i64 P] 76)) wr))
    (fun _ a _ => 2 ^ D - (intOf a).toNat)
  case atStart => exact ⟨1, Nat.le_refl _, Nat.one_le_two_pow, rfl, by rw [minD_one]; go_num, Below.refl _ _⟩
  case round =>
    obtain ⟨v, hv1, hv2, rfl, rfl, hb⟩ := hrel
    have k0 : wr.cell? ⟨w.heap.size, 0, none⟩ = some (.int .i64 D) := (hb.out.cell (by simp)).trans (by go_simp)
    have k1 : wr.cell? ⟨w.heap.size, 1, none⟩ = some (.int .i64 ((D : Int) + k)) := (hb.out.cell (by simp)).trans (by go_simp)
    have k2 : wr.cell? ⟨w.heap.size, 2, none⟩ = some (.int .i64 P) := (hb.out.cell (by simp)).trans (by go_simp)
    have hml := minD_le D (D + k) P v
    by_cases hlt : v < 2 ^ D
    · have hlt' : (v : Int) < 2 ^ D := by rw [← HPE.out]; omega
      obtain ⟨e24, hf⟩ := popc_24 hk HP.out hlt
      have hstep := minD_step D (D + k) P v hv1
      rw [← e24] at hstep
      obtain ⟨c, hc⟩ : ∃ c, c = popc 24 (fword D (D + k) P v) := ⟨_, rfl⟩
      have hc24 : c ≤ 24 := by rw [hc]; exact popc_le _ _
      rw [← hc] at hstep
      have HC := Lib.hid hc
      have HST := Lib.hid hstep
      have HLT := Lib.hid hlt
      clear hc hstep e24
      go_wp2_with fail
      refine (number_any D k P v _ hD0 hD hk0 (by omega) HP.out HLT.out).mono ?_
      rintro e1 w1 ⟨rfl, hb1⟩
      have HB1 := Lib.hid (hb.out.trans (hb1.mono (by have := hb.out.size; simpa using this)))
      clear hb1
      go_wp2_with fail
      refine (ones64_any _ _ hf).mono ?_
      rintro e2 w2 ⟨rfl, rfl⟩
      rw [← HC.out]
      go_wp2_with fail
      go_roundw
      case rel => exact ⟨v + 1, by omega, by omega, by go_num, by rw [HST.out]; go_num, HB1.out⟩
      case measure => simp [intOf]; omega
    · have hlt' : ¬ (v : Int) < 2 ^ D := by rw [← HPE.out]; omega
      have hve : v = 2 ^ D := by omega
      have HV := Lib.hid hve
      clear hve
      go_wp2_with fail
      go_ret
      exact ⟨ret_int (by rw [← HV.out]), (Below.refl _ _).alloc (Nat.le_refl _) _ |>.trans (hb.out.mono (by omega))⟩
end Go.Proofs.Ytgokleeofcleiaa
