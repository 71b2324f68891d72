/-
  Contracts of chapter 8, the reference: the nearest format word.
-/
import Derived.Test.YtgokleeofcleiaaC08G
import Derived.Test.YtgokleeofcleiaaNear
namespace Go.Proofs.Ytgokleeofcleiaa
open Go.RowKit

theorem ret_int2 {k k2 : IntKind} {a b c d : Int} (h : a = b) (h2 : c = d) : Ending.returned (.tuple #[.int k a, .int k2 c]) = .returned (.tuple #[.int k b, .int k2 d]) := by rw [h, h2]
def allR (xs : List Int) : Bool := xs.all fun x => inR x (-1) 1
theorem allR_take {xs : List Int} {k : Nat} (hk : k < xs.length) : allR (xs.take (k + 1)) = (allR (xs.take k) && inR (nth xs k) (-1) 1) := by
  rw [take_nth hk]; unfold allR; simp
theorem allR_false {xs : List Int} {k : Nat} (hk : k < xs.length) (e : inR (nth xs k) (-1) 1 = false) : allR xs = false := by
  unfold allR
  rw [List.all_eq_false]
  exact ⟨_, nth_mem hk, by simp [e]⟩
theorem allR_mem {xs : List Int} (e : allR xs = true) {x : Int} (hx : x ∈ xs) : -1 ≤ x ∧ x ≤ 1 := inR_true (List.all_eq_true.1 e x hx)
/-- A list that fits a code's length. -/
def listB (xs : List Int) (l : Int) : Bool := allR xs && ((xs.length : Int) == l)
set_option maxHeartbeats 1000000 in
theorem l08List_any (d l p : Int) (A : Option Addr) (n c : Nat) (xs : List Int) (w : World) (B : Nat) (hr : RI w B A n xs) (hB : B ≤ w.heap.size) (hn : n ≤ 1000000000000000) :
    Calls Try.prog 94 #[.agg #[.int .i64 d, .int .i64 l, .int .i64 p], .slice A n c] w fun e w' => e = .returned (.bool (listB xs l)) ∧ Below w.heap.size w w' := by
  have HL := Lib.hid hr.len
  have HR := Lib.hid (hr.alloc hB (.cells #[.int .i64 d, .int .i64 l, .int .i64 p] 76))
  clear hr
  go_enter Try.func94, Try.ntmps94
  go_wp2_with fail
  go_loop [5] (fun i => ∃ k : Nat, k ≤ n ∧ i = .int .i64 k ∧ Hid (allR (xs.take k) = true)) (fun i => n - (intOf i).toNat)
  case atStart => exact ⟨0, Nat.zero_le _, rfl, rfl⟩
  case round =>
    obtain ⟨k, hk, rfl, hall⟩ := hrel
    by_cases hlt : k < n
    · obtain ⟨b, o, rfl, hb, hc⟩ := HR.out.cells (by omega)
      have hck := hc k hlt
      clear hc
      cases he : inR (nth xs k) (-1) 1
      · go_wp2_with (go_at_call 60; refine (l01In_any _ _ _ _).mono ?_; rintro e w' ⟨rfl, rfl⟩)
        go_ret
        exact ⟨ret_bool (by unfold listB; rw [allR_false (by rw [HL.out]; exact hlt) he]; rfl), by go_grown⟩
      · go_wp2_with (go_at_call 60; refine (l01In_any _ _ _ _).mono ?_; rintro e w' ⟨rfl, rfl⟩)
        go_round
        case rel => exact ⟨k + 1, by omega, by go_num, by rw [allR_take (by rw [HL.out]; exact hlt), hall.out, he]; rfl⟩
        case measure => simp [intOf]; omega
    · have hkn : k = n := by omega
      have hA : allR xs = true := by have := hall.out; rwa [hkn, List.take_of_length_le (by rw [HL.out]; exact Nat.le_refl _)] at this
      have HA := Lib.hid hA
      clear hA hkn
      go_wp2_with fail
      go_ret
      exact ⟨ret_bool (by unfold listB; rw [HA.out, HL.out]; rfl), by go_grown⟩
set_option maxHeartbeats 1000000 in
theorem l08Away_any (A1 A2 : Option Addr) (n c1 c2 : Nat) (ws xs : List Int) (w : World) (B1 B2 : Nat) (hr1 : RI w B1 A1 n ws) (hr2 : RI w B2 A2 n xs) (hn : n ≤ 1000000) :
    Calls Try.prog 112 #[.slice A1 n c1, .slice A2 n c2] w fun e w' => e = .returned (.tuple #[.int .i64 (awayL ws xs), .int .i64 (unkL xs)]) ∧ ∃ m, w' = w.drewN m := by
  have HL1 := Lib.hid hr1.len
  have HL2 := Lib.hid hr2.len
  have HE : Hid (ws.length = xs.length) := Lib.hid (HL1.out.trans HL2.out.symm)
  have H1 := Lib.hid hr1
  have H2 := Lib.hid hr2
  clear hr1 hr2
  go_enter Try.func112, Try.ntmps112
  go_wp2_with fail
  try go_quiet (fail)
  try go_wp2_with fail
  go_loopw [6, 7, 8] (fun a u i wr => ∃ k : Nat, k ≤ n ∧ i = .int .i64 k ∧ a = .int .i64 (awayL (ws.take k) (xs.take k)) ∧ u = .int .i64 (unkL (xs.take k)) ∧ Hid (∃ m, wr = w.drewN m)) (fun _ _ i _ => n - (intOf i).toNat)
  case atStart => exact ⟨0, Nat.zero_le _, rfl, rfl, rfl, by first | exact ⟨0, rfl⟩ | exact ⟨_, rfl⟩⟩
  case round =>
    obtain ⟨k, hk, rfl, rfl, rfl, hw⟩ := hrel
    have hal : awayL (ws.take k) (xs.take k) ≤ k := Nat.le_trans (awayL_le _ _) (List.length_take_le _ _)
    have hul : unkL (xs.take k) ≤ k := Nat.le_trans (unkL_le _) (List.length_take_le _ _)
    by_cases hlt : k < n
    · obtain ⟨b, o, rfl, hb, hc⟩ := H2.out.cells (by omega)
      have hck : wr.cell? ⟨b, o + k, none⟩ = some (.int .i64 (nth xs k)) := by
        obtain ⟨m, rfl⟩ := hw.out
        exact hc k hlt
      have hsn := awayL_snoc HE.out (k := k) (by rw [HL2.out]; exact hlt)
      have hun := unkL_snoc (xs.take k) (nth xs k)
      rw [← take_nth (by rw [HL2.out]; exact hlt)] at hun
      clear hc hb
      by_cases hneg : nth xs k < 0
      · rw [if_pos (.inl hneg)] at hsn
        rw [if_pos hneg] at hun
        have HS := Lib.hid hsn
        have HU := Lib.hid hun
        clear hsn hun
        go_wp2_with fail
        go_roundw
        case rel => exact ⟨k + 1, by omega, by go_num, by rw [HS.out]; go_num, by rw [HU.out]; go_num, hw⟩
        case measure => simp [intOf]; omega
      · obtain ⟨b', o', rfl, hb', hc'⟩ := H1.out.cells (by omega)
        have hck' : wr.cell? ⟨b', o' + k, none⟩ = some (.int .i64 (nth ws k)) := by
          obtain ⟨m, rfl⟩ := hw.out
          exact hc' k hlt
        clear hc' hb'
        rw [if_neg hneg] at hun
        by_cases he : nth xs k = nth ws k
        · have hne : (nth xs k != nth ws k) = false := by simpa using he
          rw [if_pos (.inr he)] at hsn
          have HS := Lib.hid hsn
          have HU := Lib.hid hun
          clear hsn hun he
          go_wp2_with fail
          go_quiet (fail)
          go_wp2_with fail
          go_roundw
          case rel => exact ⟨k + 1, by omega, by go_num, by rw [HS.out]; go_num, by rw [HU.out]; go_num, by obtain ⟨m, hm⟩ := hw.out; exact ⟨m + nq, by rw [hm]; exact drewN_two w m nq⟩⟩
          case measure => simp [intOf]; omega
        · have hne : (nth xs k != nth ws k) = true := by simpa using he
          rw [if_neg (fun h => h.elim hneg he)] at hsn
          have HS := Lib.hid hsn
          have HU := Lib.hid hun
          clear hsn hun he
          go_wp2_with fail
          go_quiet (fail)
          go_wp2_with fail
          go_roundw
          case rel => exact ⟨k + 1, by omega, by go_num, by rw [HS.out]; go_num, by rw [HU.out]; go_num, by obtain ⟨m, hm⟩ := hw.out; exact ⟨m + nq, by rw [hm]; exact drewN_two w m nq⟩⟩
          case measure => simp [intOf]; omega
    · have hkn : k = n := by omega
      have hfin : awayL (ws.take k) (xs.take k) = awayL ws xs ∧ unkL (xs.take k) = unkL xs := by
        rw [hkn, List.take_of_length_le (by rw [HL1.out]; exact Nat.le_refl _), List.take_of_length_le (by rw [HL2.out]; exact Nat.le_refl _)]; exact ⟨rfl, rfl⟩
      have HF := Lib.hid hfin
      clear hfin hkn
      go_wp2_with fail
      try go_quiet (fail)
      try go_wp2_with fail
      go_ret2
      exact ⟨ret_int2 (by rw [HF.out.1]) (by rw [HF.out.2]), by obtain ⟨m, hm⟩ := hw.out; first | exact ⟨m, hm⟩ | exact ⟨m + nq, by rw [hm]; exact drewN_two w m nq⟩⟩
theorem dec_nat (a b c : Nat) : decide (2 * (a : Int) + (b : Int) < (c : Int)) = decide (2 * a + b < c) := decide_eq_decide.2 (by omega)
/-- How far the word of v is from a list. -/
def farV (D k P : Nat) (xs : List Int) (v : Nat) : Nat := awayL (bitsL (D + k) (fword D (D + k) P v)) xs
theorem farV_le (D k P : Nat) (xs : List Int) (v : Nat) : farV D k P xs v ≤ xs.length := awayL_le _ _
set_option maxHeartbeats 2000000 in
theorem l08Nearest_any (D k P : Nat) (A : Option Addr) (c : Nat) (xs : List Int) (w : World) (B : Nat) (hr : RI w B A (D + k) xs) (hB : B ≤ w.heap.size)
    (hD0 : 1 ≤ D) (hD : D ≤ 8) (hk0 : 1 ≤ k) (hk : D + k ≤ 24) (hp : polyOk P k) :
    Calls Try.prog 95 #[.agg #[.int .i64 D, .int .i64 ((D : Int) + k), .int .i64 P], .slice A ((D + k : Nat)) c] w fun e w' =>
      e = .returned (.tuple #[.int .i64 (nearN (farV D k P xs) (D + k) (2 ^ D)).1, .int .i64 (nearN (farV D k P xs) (D + k) (2 ^ D)).2, .int .i64 (unkL xs), .bool (decide (2 * (nearN (farV D k P xs) (D + k) (2 ^ D)).2 + unkL xs < minD D (D + k) P (2 ^ D)))]) ∧ Below w.heap.size w w' := by
  have HL := Lib.hid hr.len
  have HR := Lib.hid hr
  have HP := Lib.hid hp
  clear hr hp
  have hpw := pow_bd (k := D) (by omega)
  have hpe : ((2 ^ D : Nat) : Int) = (2 : Int) ^ D := by simp
  have HPE := Lib.hid hpe
  clear hpe
  have hul : unkL xs ≤ 24 := Nat.le_trans (unkL_le _) (by rw [HL.out]; omega)
  go_enter Try.func95, Try.ntmps95
  go_wp2_with fail
  go_quiet (fail)
  go_wp2_with fail
  go_loopw [8, 9, 10, 11, 12, 13] (fun b l u a x y wr => ∃ v un : Nat, v ≤ 2 ^ D ∧ a = .int .i64 v ∧ b = .int .i64 (nearN (farV D k P xs) (D + k) v).1 ∧ l = .int .i64 (nearN (farV D k P xs) (D + k) v).2 ∧ u = .int .i64 un ∧ Hid (0 < v → un = unkL xs) ∧ Hid (Below (w.heap.size + 1) (w.alloc (.cells #[.int .i64 D, .int .i64 ((D : Int) + k), .int .i64 P] 76)) wr))
    (fun _ _ _ a _ _ _ => 2 ^ D - (intOf a).toNat)
  case atStart => exact ⟨0, 0, Nat.zero_le _, rfl, rfl, by unfold nearN; go_num, rfl, (fun h => absurd h (by omega)), below_drewN' (Below.refl _ _) _⟩
  case round =>
    obtain ⟨v, un, hv, rfl, rfl, rfl, rfl, hun, hb⟩ := hrel
    have k0 : wr.cell? ⟨w.heap.size, 0, none⟩ = some (.int .i64 D) := (hb.out.cell (by simp)).trans (by go_simp)
    have k1 : wr.cell? ⟨w.heap.size, 1, none⟩ = some (.int .i64 ((D : Int) + k)) := (hb.out.cell (by simp)).trans (by go_simp)
    have k2 : wr.cell? ⟨w.heap.size, 2, none⟩ = some (.int .i64 P) := (hb.out.cell (by simp)).trans (by go_simp)
    have hnl := nearN_le (farV D k P xs) (D + k) v
    have hbw : Hid (Below w.heap.size w wr) := Lib.hid ((Below.refl _ _).alloc (Nat.le_refl _) _ |>.trans (hb.out.mono (by omega)))
    by_cases hlt : v < 2 ^ D
    · have hlt' : (v : Int) < 2 ^ D := by rw [← HPE.out]; omega
      have HLT := Lib.hid hlt
      obtain ⟨f, hf⟩ : ∃ f, f = farV D k P xs v := ⟨_, rfl⟩
      have hfl : f ≤ 24 := by rw [hf]; exact Nat.le_trans (farV_le _ _ _ _ _) (by rw [HL.out]; omega)
      have HF := Lib.hid hf
      go_wp2_with fail
      refine (l08Word_any D k P v _ hD0 hD hk0 (by omega) HP.out HLT.out).mono ?_
      rintro e1 w1 ⟨v1, rfl, ho1, hb1⟩
      obtain ⟨A1, c1, rfl, hr1⟩ := ho1.shape
      rw [bitsL_len] at hr1 ⊢
      have HB1 := Lib.hid (hb.out.trans (hb1.mono (by have := hb.out.size; simpa using this)))
      have HW1 := Lib.hid (hbw.out.trans (hb1.mono hbw.out.size))
      have HR1 := Lib.hid hr1
      clear ho1 hb1 hr1
      by_cases hc : f < (nearN (farV D k P xs) (D + k) v).2
      · have hst := nearN_yes (f := farV D k P xs) (L := D + k) (v := v) (by rw [← hf]; exact hc)
        rw [← hf] at hst
        have HST := Lib.hid hst
        clear hst hf
        go_wp2_with fail
        refine (l08Away_any A1 A (D + k) c1 c _ xs _ _ _ HR1.out (HR.out.below (HW1.out.mono hB)) (by omega)).mono ?_
        rintro e2 w2 ⟨rfl, m2, rfl⟩
        rw [show awayL (bitsL (D + k) (fword D (D + k) P v)) xs = f from HF.out.symm]
        go_wp2_with fail
        go_roundw
        case rel => exact ⟨v + 1, unkL xs, by omega, by go_num, by rw [HST.out], by rw [HST.out], rfl, fun _ => rfl, below_drewN' HB1.out _⟩
        case measure => simp [intOf]; omega
      · have hst := nearN_no (f := farV D k P xs) (L := D + k) (v := v) (by rw [← hf]; exact hc)
        have HST := Lib.hid hst
        clear hst hf
        go_wp2_with fail
        refine (l08Away_any A1 A (D + k) c1 c _ xs _ _ _ HR1.out (HR.out.below (HW1.out.mono hB)) (by omega)).mono ?_
        rintro e2 w2 ⟨rfl, m2, rfl⟩
        rw [show awayL (bitsL (D + k) (fword D (D + k) P v)) xs = f from HF.out.symm]
        go_wp2_with fail
        go_roundw
        case rel => exact ⟨v + 1, unkL xs, by omega, by go_num, by rw [HST.out], by rw [HST.out], rfl, fun _ => rfl, below_drewN' HB1.out _⟩
        case measure => simp [intOf]; omega
    · have hlt' : ¬ (v : Int) < 2 ^ D := by rw [← HPE.out]; omega
      have hve : 2 ^ D = v := by omega
      have hue : un = unkL xs := hun.out (by have := Nat.two_pow_pos D; omega)
      subst hue
      rw [hve]
      have HV := Lib.hid hve
      clear hve
      have hmin := fun w => l08Minimum_any D k P w hD0 hD hk0 hk HP.out
      rw [HV.out] at hmin
      have HM := Lib.hid hmin
      have hml := minD_le D (D + k) P v
      clear hmin
      go_wp2_with fail
      refine (HM.out _).mono ?_
      rintro e3 w3 ⟨rfl, hb3⟩
      have HB3 := Lib.hid (hbw.out.trans (hb3.mono hbw.out.size))
      clear hb3
      go_wp2_with fail
      go_returns
      exact ⟨by rw [HV.out, dec_nat], HB3.out⟩
end Go.Proofs.Ytgokleeofcleiaa
