/-
  Contracts of chapter 7: StreamDamage.
-/
import Derived.Test.YtbgcbjfimjfbpaaC07S
import Derived.Test.YtbgcbjfimjfbpaaC07O
import Derived.Test.YtbgcbjfimjfbpaaSdm
import Derived.Test.YtbgcbjfimjfbpaaBlk
namespace Go.Proofs.Ytbgcbjfimjfbpaa
set_option linter.unusedSimpArgs false
open Go.RowKit

set_option maxHeartbeats 2000000 in
theorem l07Marks_any (N : Nat) (A : Option Addr) (n cp : Nat) (xs : List Int) (w : World) (B : Nat) (hr : RI w B A n xs) (hn : n ≤ 1000000000000000) (_hN : N ≤ 100000) :
    Calls Try.prog 77 #[.slice A n cp, .int .i64 N] w fun e w' => e = .returned (.bool (risB 0 ((N : Int) - 1) xs)) ∧ Below w.heap.size w w' := by
  have HL := Lib.hid hr.len
  have HR := Lib.hid hr
  clear hr
  go_enter Try.func77, Try.ntmps77
  go_wp2_with fail
  go_loopw [5] (fun i wr => ∃ k : Nat, k ≤ n ∧ i = .int .i64 k ∧ Hid (risUp 0 ((N : Int) - 1) xs k) ∧ Hid (∃ m, wr = w.drewN m)) (fun i _ => n - (intOf i).toNat)
  case atStart => exact ⟨0, Nat.zero_le _, rfl, Lib.hid (risUp_zero _ _ _), Lib.hid ⟨0, rfl⟩⟩
  case round =>
    obtain ⟨k, hk, rfl, hup, hw⟩ := hrel
    by_cases hlt : k < n
    · obtain ⟨b, o, rfl, hb, hc⟩ := HR.out.cells (by omega)
      have hck : wr.cell? ⟨b, o + k, none⟩ = some (.int .i64 (nth xs k)) := by
        obtain ⟨m, rfl⟩ := hw.out
        exact hc k hlt
      cases he : inR (nth xs k) 0 ((N : Int) - 1)
      · clear hc
        have HE := Lib.hid (risB_no (lo := 0) (hi := (N : Int) - 1) (xs := xs) (i := k) (by rw [HL.out]; exact hlt) (.inl he))
        go_wp2_with fail
        go_quiet ((go_at_call 47; exact Calls.quiet_of_same ((l01In_any _ _ _ _).mono fun _ _ h => ⟨h.1, h.2.symm⟩)))
        go_wp2_with fail
        go_ret
        exact ⟨ret_bool (by exact HE.out.symm), by obtain ⟨m, hm⟩ := hw.out; rw [hm]; exact below_drewN' (below_drewN' (Below.refl _ _) _) _⟩
      · have HE := Lib.hid he
        rcases k with _ | j
        · clear hc
          rw [Nat.add_zero] at hck
          go_wp2_with fail
          go_quiet ((go_at_call 47; exact Calls.quiet_of_same ((l01In_any _ _ _ _).mono fun _ _ h => ⟨h.1, h.2.symm⟩)))
          go_wp2_with fail
          go_roundw
          case rel => exact ⟨1, by omega, rfl, Lib.hid (risUp_succ hup.out HE.out (fun h => by omega)), Lib.hid (by obtain ⟨m, hm⟩ := hw.out; exact ⟨m + nq, by rw [hm]; exact drewN_add5 w m nq⟩)⟩
          case measure => simp [intOf]; omega
        · have hcj : wr.cell? ⟨b, o + j, none⟩ = some (.int .i64 (nth xs j)) := by
            obtain ⟨m, rfl⟩ := hw.out
            exact hc j (by omega)
          clear hc
          by_cases hg : nth xs j < nth xs (j + 1)
          · have hgd : decide (nth xs (j + 1) ≤ nth xs j) = false := decide_eq_false (by omega)
            have HG := Lib.hid hg
            clear hg
            go_wp2_with fail
            go_quiet ((go_at_call 47; exact Calls.quiet_of_same ((l01In_any _ _ _ _).mono fun _ _ h => ⟨h.1, h.2.symm⟩)))
            go_wp2_with fail
            go_roundw
            case rel => exact ⟨j + 1 + 1, by omega, by go_num, Lib.hid (risUp_succ hup.out HE.out (fun h => HG.out)), Lib.hid (by obtain ⟨m, hm⟩ := hw.out; exact ⟨m + nq, by rw [hm]; exact drewN_add5 w m nq⟩)⟩
            case measure => simp [intOf]; omega
          · have hgd : decide (nth xs (j + 1) ≤ nth xs j) = true := decide_eq_true (by omega)
            have HF := Lib.hid (risB_no (lo := 0) (hi := (N : Int) - 1) (xs := xs) (i := j + 1) (by rw [HL.out]; exact hlt) (.inr ⟨by omega, by rw [Nat.add_sub_cancel]; omega⟩))
            clear hg
            go_wp2_with fail
            go_quiet ((go_at_call 47; exact Calls.quiet_of_same ((l01In_any _ _ _ _).mono fun _ _ h => ⟨h.1, h.2.symm⟩)))
            go_wp2_with fail
            go_ret
            exact ⟨ret_bool (by exact HF.out.symm), by obtain ⟨m, hm⟩ := hw.out; rw [hm]; exact below_drewN' (below_drewN' (Below.refl _ _) _) _⟩
    · have HF := Lib.hid (risB_yes hup.out (by rw [HL.out]; omega))
      go_wp2_with fail
      go_ret
      exact ⟨ret_bool (by exact HF.out.symm), by obtain ⟨m, hm⟩ := hw.out; rw [hm]; exact below_drewN' (Below.refl _ _) _⟩
end Go.Proofs.Ytbgcbjfimjfbpaa
