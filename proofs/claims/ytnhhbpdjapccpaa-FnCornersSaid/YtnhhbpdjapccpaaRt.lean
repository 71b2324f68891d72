/-
  The root of a whole number: math.Sqrt and the two loops that mend it.
-/
import Derived.Test.YtnhhbpdjapccpaaC01
import Derived.Test.YtnhhbpdjapccpaaGeo
import Derived.Test.YtnhhbpdjapccpaaSqr
import Derived.Laws.Externs
import Derived.Laws.Cover2
import Derived.Laws.FloatArith
namespace Go.Proofs.Ytnhhbpdjapccpaa
open Go.RowKit

theorem sq_lt {d : Int} (h0 : 0 ≤ d) (h : d * d < 268435456) : d < 16384 := by
  rcases Int.lt_or_le d 16384 with h1 | h1
  · exact h1
  · have := Int.mul_le_mul h1 h1 (by decide) h0
    omega

theorem root_sq {d s : Nat} (h1 : d * d ≤ s * s) (h2 : s * s < (d + 1) * (d + 1)) : d = s := by
  have a : d ≤ s := Nat.le_of_not_lt (fun h => by have := Nat.mul_lt_mul_of_lt_of_lt h h; omega)
  have b : s < d + 1 := Nat.lt_of_not_le (fun h => by have := Nat.mul_le_mul h h; omega)
  omega
theorem Sqrt_any (x r : Nat) (h : FloatKind.f64.format.sqrt x = some r) (w : World) :
    Calls Try.prog 86 #[.float .f64 x] w fun e w' => e = .returned (.float .f64 r) ∧ w = w' := by
  have hd : ∀ w : World, (callFunc 87 #[.float .f64 x]).run Try.prog w = .ok (.value (.float .f64 r)) w := by
    intro w
    rw [run_callFunc_extern (P := Try.prog) (f := 87) (e := Extern.MathSqrt.sqrt) Try.func87 (by kernel_rfl) (by kernel_rfl) (by kernel_rfl) (by kernel_rfl)]
    change (Sem.run Try.prog (match FloatKind.f64.format.sqrt x with | some r => pure (Value.float .f64 r) | none => do pure (Value.float .f64 (← choose (.nanBits .f64 x x)))) w).andThen _ = _
    rw [h]
    rfl
  go_enter Try.func86, Try.ntmps86
  go_wp2
  all_goals (go_ret; exact ⟨rfl, rfl⟩)
set_option maxHeartbeats 1000000 in
theorem root_any (n : Nat) (hn : n < 268435456) (w : World) :
    Calls Try.prog 83 #[.int .i64 n] w fun e w' => (∃ d : Nat, e = .returned (.int .i64 d) ∧ d * d ≤ n ∧ n < (d + 1) * (d + 1)) ∧ ∃ m, w' = w.drewN m := by
  obtain ⟨r, d0, hr, hd, hd0⟩ := sqrt_int hn
  have HS := Lib.hid (fun w => Sqrt_any (floatOfInt FloatKind.f64 n) r hr w)
  have hc : ∀ w : World, (convert 115 2 (.float .f64 r)).run Try.prog w = .ok (.int .i64 d0) w := by
    intro w
    refine run_convert_float_int _ _ _ _ _ _ _ (by kernel_rfl) (by kernel_rfl) ?_
    unfold floatToIntVal
    rw [hd]
    have h1 : IntKind.i64.min = -9223372036854775808 := by decide
    have h2 : IntKind.i64.max = 9223372036854775807 := by decide
    simp only [h1, h2]
    rw [if_pos (by omega)]
  clear hd
  go_enter Try.func83, Try.ntmps83
  go_wp2_with (go_at_call 86; refine (HS.out _).mono ?_; rintro e w' ⟨rfl, rfl⟩)
  clear hc HS hr
  have hb : n < 268435456 := hn
  go_loopw [3] (fun dv wr => ∃ d : Int, 0 ≤ d ∧ d ≤ 2097152 ∧ dv = .int .i64 d ∧ Hid (∃ m, wr = w.drewN m)) (fun dv _ => (intOf dv).toNat)
  case atStart => exact ⟨d0, by omega, by omega, rfl, ⟨0, rfl⟩⟩
  case round =>
    obtain ⟨d, h0, h1, rfl, hw⟩ := hrel
    have hsq : -4398046511104 ≤ d * d ∧ d * d ≤ 4398046511104 := mul_rg 2097152 2097152 (by omega) (by omega) (by omega) (by omega)
    have hww : wrap64 (d * d) = d * d := by unfold wrap64; omega
    clear hsq
    by_cases hlt : (n : Int) < d * d
    · have hd1 : 1 ≤ d := by
        rcases Int.lt_or_le d 1 with h | h
        · have : d = 0 := by omega
          subst this; omega
        · exact h
      go_wp2
      all_goals
        go_roundw
        case rel => exact ⟨d - 1, by omega, by omega, by go_num, by obtain ⟨m, hm⟩ := hw.out; exact ⟨m, hm⟩⟩
        case measure => simp [intOf]; omega
    · go_wp2
      have hle : d * d ≤ n := by omega
      go_loopw [3] (fun dv wr => ∃ d : Int, 0 ≤ d ∧ d ≤ 2097152 ∧ dv = .int .i64 d ∧ Hid (d * d ≤ n) ∧ Hid (∃ m, wr = w.drewN m)) (fun dv _ => (2097152 - intOf dv).toNat)
      case atStart => exact ⟨d, h0, h1, rfl, hle, hw⟩
      case round =>
        clear hle hlt h0 h1 hw hww
        obtain ⟨d, h0, h1, rfl, hle, hw⟩ := hrel
        have hsq : -4398050705409 ≤ (d + 1) * (d + 1) ∧ (d + 1) * (d + 1) ≤ 4398050705409 := mul_rg 2097153 2097153 (by omega) (by omega) (by omega) (by omega)
        have hww : wrap64 ((d + 1) * (d + 1)) = (d + 1) * (d + 1) := by unfold wrap64; omega
        clear hsq
        by_cases hlt : (d + 1) * (d + 1) ≤ (n : Int)
        · have hd1 : d + 1 < 16384 := sq_lt (by omega) (by omega)
          have HL := Lib.hid hlt
          go_wp2
          all_goals
            go_roundw
            case rel => exact ⟨d + 1, by omega, by omega, by go_num, HL.out, by obtain ⟨m, hm⟩ := hw.out; exact ⟨m, hm⟩⟩
            case measure => simp [intOf]; omega
        · have HL := Lib.hid hlt
          go_wp2
          all_goals
            go_ret
            obtain ⟨D, rfl⟩ := Int.eq_ofNat_of_zero_le h0
            refine ⟨⟨D, by first | rfl | go_num, ?_, ?_⟩, hw.out⟩
            · have := hle.out; exact_mod_cast this
            · have := HL.out
              exact Int.ofNat_lt.1 (by rw [Int.natCast_mul]; exact this)
end Go.Proofs.Ytnhhbpdjapccpaa
