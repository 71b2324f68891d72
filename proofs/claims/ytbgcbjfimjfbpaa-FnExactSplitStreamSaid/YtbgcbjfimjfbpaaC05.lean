/-
  Contracts of chapter 5 and of the library: lists that rise, lists that have a number.
-/
import Derived.Test.YtbgcbjfimjfbpaaC01
import Derived.Test.YtbgcbjfimjfbpaaLst
namespace Go.Proofs.Ytbgcbjfimjfbpaa
set_option linter.unusedSimpArgs false
open Go.RowKit

/-- Does a list rise strictly, within the range from lo to hi? -/
def risB (lo hi : Int) (xs : List Int) : Bool := (List.range xs.length).all fun i => inR (nth xs i) lo hi && (i == 0 || decide (nth xs (i - 1) < nth xs i))
theorem risB_no {lo hi : Int} {xs : List Int} {i : Nat} (hi' : i < xs.length) (h : inR (nth xs i) lo hi = false ∨ (0 < i ∧ nth xs i ≤ nth xs (i - 1))) : risB lo hi xs = false := by
  cases e : risB lo hi xs with
  | false => rfl
  | true =>
    have h1 := List.all_eq_true.1 e i (List.mem_range.2 hi')
    simp only [Bool.and_eq_true, Bool.or_eq_true, beq_iff_eq, decide_eq_true_eq] at h1
    rcases h with h | ⟨h, h2⟩
    · rw [h1.1] at h; exact h
    · omega
def risUp (lo hi : Int) (xs : List Int) (k : Nat) : Prop := ∀ i, i < k → inR (nth xs i) lo hi = true ∧ (0 < i → nth xs (i - 1) < nth xs i)
theorem risUp_zero (lo hi : Int) (xs : List Int) : risUp lo hi xs 0 := fun i h => by omega
theorem risUp_succ {lo hi : Int} {xs : List Int} {k : Nat} (h : risUp lo hi xs k) (h1 : inR (nth xs k) lo hi = true) (h2 : 0 < k → nth xs (k - 1) < nth xs k) : risUp lo hi xs (k + 1) := fun i hi' => by
  rcases Nat.lt_or_ge i k with hl | hl
  · exact h i hl
  · obtain rfl : i = k := by omega
    exact ⟨h1, h2⟩
theorem risB_yes {lo hi : Int} {xs : List Int} {k : Nat} (h : risUp lo hi xs k) (hk : k = xs.length) : risB lo hi xs = true := by
  subst hk
  refine List.all_eq_true.2 fun i hi' => ?_
  obtain ⟨h1, h2⟩ := h i (List.mem_range.1 hi')
  rw [h1]
  by_cases h0 : i = 0
  · simp [h0]
  · simp [h2 (by omega)]
theorem risB_in {lo hi : Int} {xs : List Int} (h : risB lo hi xs = true) {i : Nat} (hi' : i < xs.length) : lo ≤ nth xs i ∧ nth xs i ≤ hi := by
  have h1 := List.all_eq_true.1 h i (List.mem_range.2 hi')
  simp only [Bool.and_eq_true] at h1
  exact inR_true h1.1
/-- Does a list have a number? -/
def hasB (n : Int) (xs : List Int) : Bool := xs.any (· == n)
theorem hasB_hit {n : Int} {xs : List Int} {k : Nat} (hk : k < xs.length) (h : nth xs k = n) : hasB n xs = true := by
  unfold hasB; rw [List.any_eq_true]; exact ⟨_, nth_mem hk, by simp [h]⟩
theorem hasB_take {n : Int} {xs : List Int} {k : Nat} (hk : k < xs.length) : hasB n (xs.take (k + 1)) = (hasB n (xs.take k) || (nth xs k == n)) := by
  rw [take_nth hk]; simp [hasB]
theorem hasB_mem {n : Int} {xs : List Int} (h : hasB n xs = true) : ∃ k, k < xs.length ∧ nth xs k = n := by
  unfold hasB at h
  rw [List.any_eq_true] at h
  obtain ⟨x, hx, he⟩ := h
  obtain ⟨k, hk, rfl⟩ := List.getElem_of_mem hx
  exact ⟨k, hk, by rw [nth_lt hk]; simpa using he⟩
theorem drewN_add5 (w : World) (m n : Nat) : (w.drewN m).drewN n = w.drewN (m + n) := by
  simp [World.drewN, Nat.add_assoc]
set_option maxHeartbeats 2000000 in
theorem rises_any (lo hi : Int) (A : Option Addr) (n cp : Nat) (xs : List Int) (w : World) (B : Nat) (hr : RI w B A n xs) (hn : n ≤ 1000000000000000) :
    Calls Try.prog 61 #[.slice A n cp, .int .i64 lo, .int .i64 hi] w fun e w' => e = .returned (.bool (risB lo hi xs)) ∧ w = w' := by
  have HL := Lib.hid hr.len
  have HR := Lib.hid hr
  clear hr
  go_enter Try.func61, Try.ntmps61
  go_wp2_with fail
  go_loop [11] (fun i => ∃ k : Nat, k ≤ n ∧ i = .int .i64 k ∧ Hid (risUp lo hi xs k)) (fun i => n - (intOf i).toNat)
  case atStart => exact ⟨0, Nat.zero_le _, rfl, Lib.hid (risUp_zero _ _ _)⟩
  case round =>
    obtain ⟨k, hk, rfl, hup⟩ := hrel
    by_cases hlt : k < n
    · obtain ⟨b, o, rfl, hb, hc⟩ := HR.out.cells (by omega)
      have hck := hc k hlt
      cases he : inR (nth xs k) lo hi
      · clear hc
        have HE := Lib.hid (risB_no (lo := lo) (hi := hi) (xs := xs) (i := k) (by rw [HL.out]; exact hlt) (.inl he))
        go_wp2_with (go_at_call 60; refine (inRange_any _ _ _ _).mono ?_; rintro e w' ⟨rfl, rfl⟩)
        go_ret
        exact ⟨ret_bool HE.out.symm, rfl⟩
      · have HE := Lib.hid he
        rcases k with _ | j
        · clear hc
          rw [Nat.add_zero] at hck
          go_wp2_with (go_at_call 60; refine (inRange_any _ _ _ _).mono ?_; rintro e w' ⟨rfl, rfl⟩)
          go_round
          case rel => exact ⟨1, by omega, rfl, Lib.hid (risUp_succ hup.out HE.out (fun h => by omega))⟩
          case measure => simp [intOf]; omega
        · have hcj := hc j (by omega)
          clear hc
          by_cases hg : nth xs j < nth xs (j + 1)
          · have hgd : decide (nth xs (j + 1) ≤ nth xs j) = false := decide_eq_false (by omega)
            have HG := Lib.hid hg
            clear hg
            go_wp2_with (go_at_call 60; refine (inRange_any _ _ _ _).mono ?_; rintro e w' ⟨rfl, rfl⟩)
            go_round
            case rel => exact ⟨j + 1 + 1, by omega, by go_num, Lib.hid (risUp_succ hup.out HE.out (fun h => HG.out))⟩
            case measure => simp [intOf]; omega
          · have hgd : decide (nth xs (j + 1) ≤ nth xs j) = true := decide_eq_true (by omega)
            have HF := Lib.hid (risB_no (lo := lo) (hi := hi) (xs := xs) (i := j + 1) (by rw [HL.out]; exact hlt) (.inr ⟨by omega, by rw [Nat.add_sub_cancel]; omega⟩))
            clear hg
            go_wp2_with (go_at_call 60; refine (inRange_any _ _ _ _).mono ?_; rintro e w' ⟨rfl, rfl⟩)
            go_ret
            exact ⟨ret_bool HF.out.symm, rfl⟩
    · have HF := Lib.hid (risB_yes hup.out (by rw [HL.out]; omega))
      go_wp2_with fail
      go_ret
      exact ⟨ret_bool HF.out.symm, rfl⟩
set_option maxHeartbeats 2000000 in
theorem l13Rises_any (M : Nat) (lo hi : Int) (A : Option Addr) (n cp : Nat) (xs : List Int) (w : World) (B : Nat) (hr : RI w B A n xs) (hn : n ≤ 1000000000000000) (_hM : M ≤ 1000) :
    Calls Try.prog 67 #[.slice A n cp, .int .i64 M, .int .i64 lo, .int .i64 hi] w fun e w' => e = .returned (.bool (inR n 1 M && risB lo hi xs)) ∧ Below w.heap.size w w' := by
  have HL := Lib.hid hr.len
  have HR := Lib.hid hr
  clear hr
  by_cases h1 : n < 1
  · obtain rfl : n = 0 := by omega
    have HF : Hid ((inR ((0 : Nat) : Int) 1 M && risB lo hi xs) = false) := Lib.hid (by simp [inR])
    go_enter Try.func67, Try.ntmps67
    go_wp2_with fail
    go_ret
    exact ⟨ret_bool HF.out.symm, Below.refl _ _⟩
  by_cases h2 : M < n
  · have HF : Hid ((inR (n : Int) 1 M && risB lo hi xs) = false) := Lib.hid (by
      rcases inR_cases (n : Int) 1 M with ⟨_, h3, h4⟩ | ⟨e, _⟩
      · omega
      · rw [e]; rfl)
    go_enter Try.func67, Try.ntmps67
    go_wp2_with fail
    go_ret
    exact ⟨ret_bool HF.out.symm, Below.refl _ _⟩
  have HI : Hid ((inR (n : Int) 1 M && risB lo hi xs) = risB lo hi xs) := Lib.hid (by rw [inR_mk (by omega) (by omega)]; rfl)
  have hd1 : decide ((n : Int) < 1) = false := decide_eq_false (by omega)
  have hd2 : decide (M < n) = false := decide_eq_false h2
  clear h2
  go_enter Try.func67, Try.ntmps67
  go_wp2_with fail
  go_loopw [9] (fun i wr => ∃ k : Nat, k ≤ n ∧ i = .int .i64 k ∧ Hid (risUp lo hi xs k) ∧ Hid (∃ m, wr = w.drewN m)) (fun i _ => n - (intOf i).toNat)
  case atStart => exact ⟨0, Nat.zero_le _, rfl, Lib.hid (risUp_zero _ _ _), Lib.hid ⟨0, rfl⟩⟩
  case round =>
    obtain ⟨k, hk, rfl, hup, hw⟩ := hrel
    by_cases hlt : k < n
    · obtain ⟨b, o, rfl, hb, hc⟩ := HR.out.cells (by omega)
      have hck : wr.cell? ⟨b, o + k, none⟩ = some (.int .i64 (nth xs k)) := by
        obtain ⟨m, rfl⟩ := hw.out
        exact hc k hlt
      cases he : inR (nth xs k) lo hi
      · clear hc
        have HE := Lib.hid (risB_no (lo := lo) (hi := hi) (xs := xs) (i := k) (by rw [HL.out]; exact hlt) (.inl he))
        go_wp2_with fail
        go_quiet ((go_at_call 47; exact Calls.quiet_of_same ((l01In_any _ _ _ _).mono fun _ _ h => ⟨h.1, h.2.symm⟩)))
        go_wp2_with fail
        go_ret
        exact ⟨ret_bool (by rw [HI.out]; exact HE.out.symm), by obtain ⟨m, hm⟩ := hw.out; rw [hm]; exact below_drewN' (below_drewN' (Below.refl _ _) _) _⟩
      · have HE := Lib.hid he
        rcases k with _ | j
        · clear hc
          rw [Nat.add_zero] at hck
          go_wp2_with fail
          go_quiet ((go_at_call 47; exact Calls.quiet_of_same ((l01In_any _ _ _ _).mono fun _ _ h => ⟨h.1, h.2.symm⟩)))
          go_wp2_with fail
          go_roundw
          case rel => exact ⟨1, by omega, rfl, Lib.hid (risUp_succ hup.out HE.out (fun h => by omega)), Lib.hid (by obtain ⟨m, hm⟩ := hw.out; exact ⟨m + nq, by rw [hm]; exact drewN_add5 w m nq⟩)⟩
          case measure => simp [intOf]; omega
        · have hcj : wr.cell? ⟨b, o + j, none⟩ = some (.int .i64 (nth xs j)) := by
            obtain ⟨m, rfl⟩ := hw.out
            exact hc j (by omega)
          clear hc
          by_cases hg : nth xs j < nth xs (j + 1)
          · have hgd : decide (nth xs (j + 1) ≤ nth xs j) = false := decide_eq_false (by omega)
            have HG := Lib.hid hg
            clear hg
            go_wp2_with fail
            go_quiet ((go_at_call 47; exact Calls.quiet_of_same ((l01In_any _ _ _ _).mono fun _ _ h => ⟨h.1, h.2.symm⟩)))
            go_wp2_with fail
            go_roundw
            case rel => exact ⟨j + 1 + 1, by omega, by go_num, Lib.hid (risUp_succ hup.out HE.out (fun h => HG.out)), Lib.hid (by obtain ⟨m, hm⟩ := hw.out; exact ⟨m + nq, by rw [hm]; exact drewN_add5 w m nq⟩)⟩
            case measure => simp [intOf]; omega
          · have hgd : decide (nth xs (j + 1) ≤ nth xs j) = true := decide_eq_true (by omega)
            have HF := Lib.hid (risB_no (lo := lo) (hi := hi) (xs := xs) (i := j + 1) (by rw [HL.out]; exact hlt) (.inr ⟨by omega, by rw [Nat.add_sub_cancel]; omega⟩))
            clear hg
            go_wp2_with fail
            go_quiet ((go_at_call 47; exact Calls.quiet_of_same ((l01In_any _ _ _ _).mono fun _ _ h => ⟨h.1, h.2.symm⟩)))
            go_wp2_with fail
            go_ret
            exact ⟨ret_bool (by rw [HI.out]; exact HF.out.symm), by obtain ⟨m, hm⟩ := hw.out; rw [hm]; exact below_drewN' (below_drewN' (Below.refl _ _) _) _⟩
    · have HF := Lib.hid (risB_yes hup.out (by rw [HL.out]; omega))
      go_wp2_with fail
      go_ret
      exact ⟨ret_bool (by rw [HI.out]; exact HF.out.symm), by obtain ⟨m, hm⟩ := hw.out; rw [hm]; exact below_drewN' (Below.refl _ _) _⟩
set_option maxHeartbeats 1000000 in
theorem l05Has_any (x : Int) (A : Option Addr) (n cp : Nat) (xs : List Int) (w : World) (B : Nat) (hr : RI w B A n xs) (hn : n ≤ 1000000000000000) :
    Calls Try.prog 80 #[.slice A n cp, .int .i64 x] w fun e w' => e = .returned (.bool (hasB x xs)) ∧ w = w' := by
  have HL := Lib.hid hr.len
  have HR := Lib.hid hr
  clear hr
  go_enter Try.func80, Try.ntmps80
  go_wp2_with fail
  go_loop [5] (fun i => ∃ k : Nat, k ≤ n ∧ i = .int .i64 k ∧ Hid (hasB x (xs.take k) = false)) (fun i => n - (intOf i).toNat)
  case atStart => exact ⟨0, Nat.zero_le _, rfl, Lib.hid rfl⟩
  case round =>
    obtain ⟨k, hk, rfl, hno⟩ := hrel
    by_cases hlt : k < n
    · obtain ⟨b, o, rfl, hb, hc⟩ := HR.out.cells (by omega)
      have hck := hc k hlt
      clear hc
      by_cases he : nth xs k = x
      · have HF := Lib.hid (hasB_hit (by rw [HL.out]; exact hlt) he)
        rw [he] at hck
        clear he
        go_wp2_with fail
        go_ret
        exact ⟨ret_bool HF.out.symm, rfl⟩
      · have he' : (nth xs k == x) = false := by simpa using he
        have HS : Hid (hasB x (xs.take (k + 1)) = false) := Lib.hid (by rw [hasB_take (by rw [HL.out]; exact hlt), hno.out, he']; rfl)
        clear he
        go_wp2_with fail
        go_round
        case rel => exact ⟨k + 1, by omega, by go_num, HS⟩
        case measure => simp [intOf]; omega
    · have HF : Hid (hasB x xs = false) := Lib.hid (by have := hno.out; rwa [List.take_of_length_le (by rw [HL.out]; omega)] at this)
      go_wp2_with fail
      go_ret
      exact ⟨ret_bool HF.out.symm, rfl⟩
def IdxPost (x : Int) (xs : List Int) (w w' : World) (e : Ending) : Prop := ∃ i : Int, e = .returned (.int .i64 i) ∧ decide (0 ≤ i) = hasB x xs ∧ w = w'
set_option maxHeartbeats 1000000 in
theorem Index_any (x : Int) (A : Option Addr) (n cp : Nat) (xs : List Int) (w : World) (B : Nat) (hr : RI w B A n xs) (hn : n ≤ 1000000000000000) :
    Calls Try.prog 109 #[.slice A n cp, .int .i64 x] w fun e w' => IdxPost x xs w w' e := by
  have HL := Lib.hid hr.len
  have HR := Lib.hid hr
  clear hr
  go_enter Try.func109, Try.ntmps109
  go_wp2_with fail
  go_loop [8] (fun i => ∃ k : Nat, k ≤ n ∧ i = .int .i64 k ∧ Hid (hasB x (xs.take k) = false)) (fun i => n - (intOf i).toNat)
  case atStart => exact ⟨0, Nat.zero_le _, rfl, Lib.hid rfl⟩
  case round =>
    obtain ⟨k, hk, rfl, hno⟩ := hrel
    by_cases hlt : k < n
    · obtain ⟨b, o, rfl, hb, hc⟩ := HR.out.cells (by omega)
      have hck := hc k hlt
      clear hc
      by_cases he : nth xs k = x
      · have HF := Lib.hid (hasB_hit (by rw [HL.out]; exact hlt) he)
        rw [he] at hck
        clear he
        go_wp2_with fail
        go_ret
        exact ⟨_, rfl, by rw [HF.out]; simp, rfl⟩
      · have he' : (x == nth xs k) = false := by simpa using fun h => he h.symm
        have he2 : (nth xs k == x) = false := by simpa using he
        have HS : Hid (hasB x (xs.take (k + 1)) = false) := Lib.hid (by rw [hasB_take (by rw [HL.out]; exact hlt), hno.out, he2]; rfl)
        clear he he2
        go_wp2_with fail
        go_round
        case rel => exact ⟨k + 1, by omega, by go_num, HS⟩
        case measure => simp [intOf]; omega
    · have HF : Hid (hasB x xs = false) := Lib.hid (by have := hno.out; rwa [List.take_of_length_le (by rw [HL.out]; omega)] at this)
      go_wp2_with fail
      go_ret
      exact ⟨_, rfl, by rw [HF.out]; simp, rfl⟩
theorem Contains_any (x : Int) (A : Option Addr) (n cp : Nat) (xs : List Int) (w : World) (B : Nat) (hr : RI w B A n xs) (hn : n ≤ 1000000000000000) :
    Calls Try.prog 90 #[.slice A n cp, .int .i64 x] w fun e w' => e = .returned (.bool (hasB x xs)) ∧ w = w' := by
  have HI := Lib.hid (fun w hr => Index_any x A n cp xs w B hr hn)
  go_enter Try.func90, Try.ntmps90
  go_wp2_with (go_at_call 109; refine (HI.out _ hr).mono ?_; rintro e1 w1 ⟨i, rfl, hi, rfl⟩; have HH := Lib.hid hi; clear hi)
  go_ret
  exact ⟨ret_bool HH.out, rfl⟩
end Go.Proofs.Ytbgcbjfimjfbpaa
