/-
  Contracts of the two functions that reckon a greatest common divisor of a list.
-/
import Derived.Test.YtnhhbpdjapccpaaDoorC01
namespace Go.Proofs.YtnhhbpdjapccpaaDoor
open Go.RowKit

set_option maxHeartbeats 1000000 in
theorem common_any (A : Option Addr) (n c : Nat) (xs : List Int) (w : World) (B : Nat) (hr : RI w B A n xs) (hn : n ≤ 1000000)
    (hx : ∀ x ∈ xs, x.natAbs ≤ 9223372036854775807) :
    Calls Tryd.prog 32 #[.slice A n c] w fun e w' => e = .returned (.int .i64 (gcdL xs)) ∧ ∃ m, w' = w.drewN m := by
  have hlen := hr.len
  go_enter Tryd.func32, Tryd.ntmps32
  have H := Lib.hid hlen
  clear hlen
  have HX := Lib.hid hx
  clear hx
  have HR := Lib.hid hr
  clear hr
  go_wp2
  go_loopw [3, 9] (fun g i wr => ∃ (k : Nat) (a : Int), k ≤ n ∧ i = .int .i64 k ∧ g = .int .i64 a ∧ Hid (a.natAbs = gcdL (xs.take k)) ∧ a.natAbs ≤ 9223372036854775807 ∧ Hid (∃ m, wr = w.drewN m))
    (fun _ i _ => n - (intOf i).toNat)
  case atStart => exact ⟨0, 0, Nat.zero_le _, rfl, rfl, rfl, by omega, ⟨0, rfl⟩⟩
  case round =>
    obtain ⟨k, a, hk, rfl, rfl, ha, hab, hw⟩ := hrel
    by_cases hlt : k < n
    · obtain ⟨b, o, rfl, hb, hc⟩ := HR.out.cells (by omega)
      have hck : wr.cell? ⟨b, o + k, none⟩ = some (.int .i64 (nth xs k)) := by
        obtain ⟨m, rfl⟩ := hw.out
        exact hc k hlt
      clear hc
      have hxk : (nth xs k).natAbs ≤ 9223372036854775807 := HX.out _ (nth_mem (by have := H.out; omega))
      go_wp2
      go_loopw [3, 5] (fun g x wr => ∃ (p q : Int), g = .int .i64 p ∧ x = .int .i64 q ∧ Hid (Nat.gcd p.natAbs q.natAbs = gcdL (xs.take (k + 1))) ∧ p.natAbs ≤ 9223372036854775807 ∧ q.natAbs ≤ 9223372036854775807 ∧ Hid (∃ m, wr = w.drewN m))
        (fun _ x _ => (intOf x).natAbs)
      case atStart => exact ⟨a, nth xs k, rfl, rfl, by rw [gcdL_take (by have := H.out; omega), ← ha.out]; rfl, hab, hxk, hw⟩
      case round =>
        obtain ⟨p, q, rfl, rfl, hg, hp, hq, hw2⟩ := hrel
        by_cases hz : q = 0
        · subst hz
          go_wp2
          go_roundw
          case rel => exact ⟨k + 1, p, by omega, by go_num, rfl, by have := hg.out; simpa [Hid] using this, hp, hw2⟩
          case measure => simp [intOf]; omega
        · have hz' : (q != 0) = true := by simpa using hz
          go_wp2
          go_region
          all_goals
            go_wp2
            go_roundw
            case rel => exact ⟨q, p.tmod q, rfl, by first | rfl | go_num, by rw [gcd_tmod]; exact hg.out, hq, by have := natAbs_tmod_lt p hz; omega, by obtain ⟨m, hm⟩ := hw2.out; exact ⟨m + 1, by rw [hm]; rfl⟩⟩
            case measure => have := natAbs_tmod_lt p hz; simpa [intOf, Int.natAbs_tmod] using this
    · have hkn : k = n := by omega
      have hfin : a.natAbs = gcdL xs := by rw [ha.out, hkn, List.take_of_length_le (by have := H.out; omega)]
      have HF := Lib.hid hfin
      clear hfin hkn
      go_wp2
      all_goals
        go_ret
        exact ⟨ret_int (by have := HF.out; omega), hw.out⟩
set_option maxHeartbeats 1000000 in
theorem l25Gcd_any (A : Option Addr) (n c : Nat) (xs : List Int) (w : World) (B : Nat) (hr : RI w B A n xs) (hn : n ≤ 1000000)
    (hx : ∀ x ∈ xs, x.natAbs ≤ 9223372036854775807) :
    Calls Tryd.prog 34 #[.slice A n c] w fun e w' => e = .returned (.int .i64 (gcdL xs)) ∧ w = w' := by
  have hlen := hr.len
  go_enter Tryd.func34, Tryd.ntmps34
  have H := Lib.hid hlen
  clear hlen
  have HX := Lib.hid hx
  clear hx
  have HR := Lib.hid hr
  clear hr
  go_wp2
  go_loop [3, 4] (fun g i => ∃ k : Nat, k ≤ n ∧ i = .int .i64 k ∧ g = .int .i64 (gcdL (xs.take k))) (fun _ i => n - (intOf i).toNat)
  case atStart => exact ⟨0, Nat.zero_le _, rfl, rfl⟩
  case round =>
    obtain ⟨k, hk, rfl, rfl⟩ := hrel
    by_cases hlt : k < n
    · obtain ⟨b, o, rfl, hb, hc⟩ := HR.out.cells (by omega)
      have hck : w.cell? ⟨b, o + k, none⟩ = some (.int .i64 (nth xs k)) := hc k hlt
      clear hc
      have hxk : (nth xs k).natAbs ≤ 9223372036854775807 := HX.out _ (nth_mem (by have := H.out; omega))
      have hgk : gcdL (xs.take k) ≤ 9223372036854775807 := gcdL_le _ (fun x hx => HX.out x (List.mem_of_mem_take hx))
      have HG := Lib.hid (gcdL_take (xs := xs) (k := k) (by have := H.out; omega))
      go_wp2_with (go_at_call 47; refine (l01Abs_any _ _ (by omega) (by omega)).mono ?_; rintro e w' ⟨rfl, rfl⟩)
      go_loop [5, 6] (fun a b => ∃ (p q : Nat), a = .int .i64 p ∧ b = .int .i64 q ∧ Hid (Nat.gcd p q = gcdL (xs.take (k + 1))) ∧ p ≤ 9223372036854775807 ∧ q ≤ 9223372036854775807)
        (fun _ b => (intOf b).natAbs)
      case atStart => exact ⟨_, _, rfl, rfl, HG.out.symm, hgk, hxk⟩
      case round =>
        obtain ⟨p, q, rfl, rfl, hg, hp, hq⟩ := hrel
        by_cases hz : q = 0
        · subst hz
          go_wp2
          go_round
          case rel => exact ⟨k + 1, by omega, by go_num, by have := hg.out; rw [← this]; simp⟩
          case measure => simp [intOf]; omega
        · have hm : p % q < q := Nat.mod_lt _ (by omega)
          go_wp2
          go_round
          case rel => exact ⟨q, p % q, rfl, by first | rfl | go_num, by show Nat.gcd q (p % q) = _; rw [← hg.out, Nat.gcd_comm q, ← Nat.gcd_rec, Nat.gcd_comm], hq, by omega⟩
          case measure => simp [intOf]; omega
    · have hkn : k = n := by omega
      have hfin : gcdL (xs.take k) = gcdL xs := by rw [hkn, List.take_of_length_le (by have := H.out; omega)]
      have HF := Lib.hid hfin
      clear hfin hkn
      go_wp2
      go_ret
      exact ⟨ret_int (by rw [HF.out]), rfl⟩
end Go.Proofs.YtnhhbpdjapccpaaDoor
