/-
  Contracts of chapter 5 and of the library: lists that rise, lists that have a number.
-/
import Derived.Test.YtffcjmnldmjocaaC01
import Derived.Test.YtffcjmnldmjocaaLst
namespace Go.Proofs.Ytffcjmnldmjocaa
set_option linter.unusedSimpArgs false
open Go.RowKit

/-- Does a list rise strictly, within the range from lo to hi? -/
def risB (lo hi : Int) (xs : List Int) : Bool := (List.range xs.length).all fun i => inR (nth xs i) lo hi && (i == 0 || decide (nth xs (i - 1) < nth xs i))
theorem risB_no {lo hi : Int} {xs : List Int} {i : Nat} (hi' : i < xs.length) (h : inR (nth xs i) lo hi = false ∨ (0 < i ∧ nth xs i ≤ nth xs (i - 1))) : risB lo hi xs = false := by
  cases e : risB lo hi xs with
  | false => rfl
  | true =>
    have h1 := List.all_eq_true.1 e i (List.mem_range.2 hi')
    simp only [Bool.and_eq_true, Bool.or_eq_true, beq_iff_eq, decide_eq_true_eq] at h1
    rcases h with h | ⟨h, h2⟩
    · rw [h1.1] at h; exact h
    · omega
def risUp (lo hi : Int) (xs : List Int) (k : Nat) : Prop := ∀ i, i < k → inR (nth xs i) lo hi = true ∧ (0 < i → nth xs (i - 1) < nth xs i)
theorem risUp_zero (lo hi : Int) (xs : List Int) : risUp lo hi xs 0 := fun i h => by omega
theorem risUp_succ {lo hi : Int} {xs : List Int} {k : Nat} (h : risUp lo hi xs k) (h1 : inR (nth xs k) lo hi = true) (h2 : 0 < k → nth xs (k - 1) < nth xs k) : risUp lo hi xs (k + 1) := fun i hi' => by
  rcases Nat.lt_or_ge i k with hl | hl
  · exact h i hl
  · obtain rfl : i = k := by omega
    exact ⟨h1, h2⟩
theorem risB_yes {lo hi : Int} {xs : List Int} {k : Nat} (h : risUp lo hi xs k) (hk : k = xs.length) : risB lo hi xs = true := by
  subst hk
  refine List.all_eq_true.2 fun i hi' => ?_
  obtain ⟨h1, h2⟩ := h i (List.mem_range.1 hi')
  rw [h1]
  by_cases h0 : i = 0
  · simp [h0]
  · simp [h2 (by omega)]
theorem risB_in {lo hi : Int} {xs : List Int} (h : risB lo hi xs = true) {i : Nat} (hi' : i < xs.length) : lo ≤ nth xs i ∧ nth xs i ≤ hi := by
  have h1 := List.all_eq_true.1 h i (List.mem_range.2 hi')
  simp only [Bool.and_eq_true] at h1
  exact inR_true h1.1
/-- Does a list have a number? -/
def hasB (n : Int) (xs : List Int) : Bool := xs.any (· == n)
theorem hasB_hit {n : Int} {xs : List Int} {k : Nat} (hk : k < xs.length) (h : nth xs k = n) : hasB n xs = true := by
  unfold hasB; rw [List.any_eq_true]; exact ⟨_, nth_mem hk, by simp [h]⟩
theorem hasB_take {n : Int} {xs : List Int} {k : Nat} (hk : k < xs.length) : hasB n (xs.take (k + 1)) = (hasB n (xs.take k) || (nth xs k == n)) := by
  rw [take_nth hk]; simp [hasB]
theorem hasB_mem {n : Int} {xs : List Int} (h : hasB n xs = true) : ∃ k, k < xs.length ∧ nth xs k = n := by
  unfold hasB at h
  rw [List.any_eq_true] at h
  obtain ⟨x, hx, he⟩ := h
  obtain ⟨k, hk, rfl⟩ := List.getElem_of_mem hx
  exact ⟨k, hk, by rw [nth_lt hk]; simpa using he⟩
theorem drewN_add5 (w : World) (m n : Nat) : (w.drewN m).drewN n = w.drewN (m + n) := by
  simp [World.drewN, Nat.add_assoc]
set_option maxHeartbeats 2000000 in
theorem rises_any (lo hi : Int) (A : Option Addr) (n cp : Nat) (xs : List Int) (w : World) (B : Nat) (hr : RI w B A n xs) (hn : n ≤ 1000000000000000) :
    Calls Try.prog 62 #[.slice A n cp, .int .i64 lo, .int .i64 hi] w fun e w' => e = .returned (.bool (risB lo hi xs)) ∧ w = w' := by
  have HL := Lib.hid hr.len
  have HR := Lib.hid hr
  clear hr
  go_enter Try.func62, Try.ntmps62
  go_wp2_with fail
  go_loop [11] (fun i => ∃ k : Nat, k ≤ n ∧ i = .int .i64 k ∧ Hid (risUp lo hi xs k)) (fun i => n - (intOf i).toNat)
  case atStart => exact ⟨0, Nat.zero_le _, rfl, Lib.hid (risUp_zero _ _ _)⟩
  case round =>
    obtain ⟨k, hk, rfl, hup⟩ := hrel
    by_cases hlt : k < n
    · obtain ⟨b, o, rfl, hb, hc⟩ := HR.out.cells (by omega)
      have hck := hc k hlt
      cases he : inR (nth xs k) lo hi
      · clear hc
        have HE := Lib.hid (risB_no (lo := lo) (hi := hi) (xs := xs) (i := k) (by rw [HL.out]; exact hlt) (.inl he))
        go_wp2_with (go_at_call 32; refine (inRange_any _ _ _ _).mono ?_; rintro e w' ⟨rfl, rfl⟩)
        go_ret
        exact ⟨ret_bool HE.out.symm, rfl⟩
      · have HE := Lib.hid he
        rcases k with _ | j
        · clear hc
          rw [Nat.add_zero] at hck
          go_wp2_with (go_at_call 32; refine (inRange_any _ _ _ _).mono ?_; rintro e w' ⟨rfl, rfl⟩)
          go_round
          case rel => exact ⟨1, by omega, rfl, Lib.hid (risUp_succ hup.out HE.out (fun h => by omega))⟩
          case measure => simp [intOf]; omega
        · have hcj := hc j (by omega)
          clear hc
          by_cases hg : nth xs j < nth xs (j + 1)
          · have hgd : decide (nth xs (j + 1) ≤ nth xs j) = false := decide_eq_false (by omega)
            have HG := Lib.hid hg
            clear hg
            go_wp2_with (go_at_call 32; refine (inRange_any _ _ _ _).mono ?_; rintro e w' ⟨rfl, rfl⟩)
            go_round
            case rel => exact ⟨j + 1 + 1, by omega, by go_num, Lib.hid (risUp_succ hup.out HE.out (fun h => HG.out))⟩
            case measure => simp [intOf]; omega
          · have hgd : decide (nth xs (j + 1) ≤ nth xs j) = true := decide_eq_true (by omega)
            have HF := Lib.hid (risB_no (lo := lo) (hi := hi) (xs := xs) (i := j + 1) (by rw [HL.out]; exact hlt) (.inr ⟨by omega, by rw [Nat.add_sub_cancel]; omega⟩))
            clear hg
            go_wp2_with (go_at_call 32; refine (inRange_any _ _ _ _).mono ?_; rintro e w' ⟨rfl, rfl⟩)
            go_ret
            exact ⟨ret_bool HF.out.symm, rfl⟩
    · have HF := Lib.hid (risB_yes hup.out (by rw [HL.out]; omega))
      go_wp2_with fail
      go_ret
      exact ⟨ret_bool HF.out.symm, rfl⟩
set_option maxHeartbeats 1000000 in
theorem l05Has_any (x : Int) (A : Option Addr) (n cp : Nat) (xs : List Int) (w : World) (B : Nat) (hr : RI w B A n xs) (hn : n ≤ 1000000000000000) :
    Calls Try.prog 37 #[.slice A n cp, .int .i64 x] w fun e w' => e = .returned (.bool (hasB x xs)) ∧ w = w' := by
  have HL := Lib.hid hr.len
  have HR := Lib.hid hr
  clear hr
  go_enter Try.func37, Try.ntmps37
  go_wp2_with fail
  go_loop [5] (fun i => ∃ k : Nat, k ≤ n ∧ i = .int .i64 k ∧ Hid (hasB x (xs.take k) = false)) (fun i => n - (intOf i).toNat)
  case atStart => exact ⟨0, Nat.zero_le _, rfl, Lib.hid rfl⟩
  case round =>
    obtain ⟨k, hk, rfl, hno⟩ := hrel
    by_cases hlt : k < n
    · obtain ⟨b, o, rfl, hb, hc⟩ := HR.out.cells (by omega)
      have hck := hc k hlt
      clear hc
      by_cases he : nth xs k = x
      · have HF := Lib.hid (hasB_hit (by rw [HL.out]; exact hlt) he)
        rw [he] at hck
        clear he
        go_wp2_with fail
        go_ret
        exact ⟨ret_bool HF.out.symm, rfl⟩
      · have he' : (nth xs k == x) = false := by simpa using he
        have HS : Hid (hasB x (xs.take (k + 1)) = false) := Lib.hid (by rw [hasB_take (by rw [HL.out]; exact hlt), hno.out, he']; rfl)
        clear he
        go_wp2_with fail
        go_round
        case rel => exact ⟨k + 1, by omega, by go_num, HS⟩
        case measure => simp [intOf]; omega
    · have HF : Hid (hasB x xs = false) := Lib.hid (by have := hno.out; rwa [List.take_of_length_le (by rw [HL.out]; omega)] at this)
      go_wp2_with fail
      go_ret
      exact ⟨ret_bool HF.out.symm, rfl⟩
end Go.Proofs.Ytffcjmnldmjocaa
