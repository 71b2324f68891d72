/-
  Contracts of chapter 22: the limit of the split, the program and the reference.
-/
import Derived.Test.YtkipaefhnmfebaaRas
import Derived.Test.YtkipaefhnmfebaaSpl
import Derived.Test.YtkipaefhnmfebaaRegOwn
import Derived.Test.YtkipaefhnmfebaaRegion
import Derived.BigQuiet
namespace Go.Proofs.Ytkipaefhnmfebaa
set_option linter.unusedSimpArgs false
open Go.RowKit

theorem blk2 {w : World} {b t : Nat} {x y : Value} (h : w.heap[b]? = some (.cells #[x, y] t (0, 0))) :
    w.cell? ⟨b, 0, none⟩ = some x ∧ w.cell? ⟨b, 1, none⟩ = some y ∧ ∀ k, w.frozen? ⟨b, k, none⟩ = false := by
  refine ⟨?_, ?_, fun k => ?_⟩ <;> simp [World.cell?, World.frozen?, h]
theorem blk2_0 {w : World} {b t : Nat} {x y u : Value} (h : w.heap[b]? = some (.cells #[x, y] t (0, 0))) : (w.setCell ⟨b, 0, none⟩ u).heap[b]? = some (.cells #[u, y] t (0, 0)) := by
  have := blk3_set (k := 0) (u := u) h
  simpa using this
theorem blk2_1 {w : World} {b t : Nat} {x y u : Value} (h : w.heap[b]? = some (.cells #[x, y] t (0, 0))) : (w.setCell ⟨b, 1, none⟩ u).heap[b]? = some (.cells #[x, u] t (0, 0)) := by
  have := blk3_set (k := 1) (u := u) h
  simpa using this
theorem loM_min {xs : List Int} {k : Nat} {a y : Int} (ha : loM xs k = a) (hy : nth xs (k + 1) = y) : loM xs (k + 1) = min a y := by simp only [loM, ha, hy]
theorem hiM_max {xs : List Int} {k : Nat} {a y : Int} (ha : hiM xs k = a) (hy : nth xs (k + 1) = y) : hiM xs (k + 1) = max a y := by simp only [hiM, ha, hy]
set_option maxHeartbeats 1000000 in
theorem Min_any (A : Option Addr) (n cp : Nat) (xs : List Int) (w : World) (B : Nat) (hr : RI w B A n xs) (hn0 : 1 ≤ n) (hn : n ≤ 40000) :
    Calls Try.prog 43 #[.slice A n cp] w fun e w' => e = .returned (.int .i64 (loM xs (n - 1))) ∧ w = w' := by
  obtain ⟨b, o, rfl, -, hc⟩ := hr.cells (by omega)
  have HC := Lib.hid hc
  have hck0 := hc 0 (by omega)
  rw [Nat.add_zero] at hck0
  clear hc hr
  go_enter Try.func43, Try.ntmps43
  go_wp2_with fail
  go_loop [3, 4] (fun mv i => ∃ k : Nat, k < n ∧ i = .int .i64 ((k : Int) + 1) ∧ mv = .int .i64 (loM xs k)) (fun _ i => n - (intOf i).toNat)
  case atStart => exact ⟨0, by omega, by go_num, rfl⟩
  case round =>
    obtain ⟨k, hk, rfl, rfl⟩ := hrel
    by_cases hlt : k + 1 < n
    · have hck := HC.out (k + 1) hlt
      have hst := Lib.hid (show loM xs (k + 1) = min (loM xs k) (nth xs (k + 1)) from rfl)
      generalize nth xs (k + 1) = y at hck hst
      generalize loM xs k = a at hst ⊢
      clear hck0
      rcases Int.lt_trichotomy a y with h | rfl | h
      · have hv : Hid (loM xs (k + 1) = a) := Lib.hid (by rw [hst.out]; omega)
        go_wp2_with fail
        go_round
        case rel => exact ⟨k + 1, by omega, by go_num, by rw [hv.out]⟩
        case measure => simp [intOf]; omega
      · have hv : Hid (loM xs (k + 1) = a) := Lib.hid (by rw [hst.out]; omega)
        go_wp2_with fail
        go_round
        case rel => exact ⟨k + 1, by omega, by go_num, by rw [hv.out]⟩
        case measure => simp [intOf]; omega
      · have hv : Hid (loM xs (k + 1) = y) := Lib.hid (by rw [hst.out]; omega)
        go_wp2_with fail
        go_round
        case rel => exact ⟨k + 1, by omega, by go_num, by rw [hv.out]⟩
        case measure => simp [intOf]; omega
    · obtain rfl : k = n - 1 := by omega
      go_wp2_with fail
      go_ret
      exact ⟨rfl, rfl⟩
set_option maxHeartbeats 1000000 in
theorem Max_any (A : Option Addr) (n cp : Nat) (xs : List Int) (w : World) (B : Nat) (hr : RI w B A n xs) (hn0 : 1 ≤ n) (hn : n ≤ 40000) :
    Calls Try.prog 42 #[.slice A n cp] w fun e w' => e = .returned (.int .i64 (hiM xs (n - 1))) ∧ w = w' := by
  obtain ⟨b, o, rfl, -, hc⟩ := hr.cells (by omega)
  have HC := Lib.hid hc
  have hck0 := hc 0 (by omega)
  rw [Nat.add_zero] at hck0
  clear hc hr
  go_enter Try.func42, Try.ntmps42
  go_wp2_with fail
  go_loop [3, 4] (fun mv i => ∃ k : Nat, k < n ∧ i = .int .i64 ((k : Int) + 1) ∧ mv = .int .i64 (hiM xs k)) (fun _ i => n - (intOf i).toNat)
  case atStart => exact ⟨0, by omega, by go_num, rfl⟩
  case round =>
    obtain ⟨k, hk, rfl, rfl⟩ := hrel
    by_cases hlt : k + 1 < n
    · have hck := HC.out (k + 1) hlt
      have hst := Lib.hid (show hiM xs (k + 1) = max (hiM xs k) (nth xs (k + 1)) from rfl)
      generalize nth xs (k + 1) = y at hck hst
      generalize hiM xs k = a at hst ⊢
      clear hck0
      rcases Int.lt_trichotomy a y with h | rfl | h
      · have hv : Hid (hiM xs (k + 1) = y) := Lib.hid (by rw [hst.out]; omega)
        go_wp2_with fail
        go_round
        case rel => exact ⟨k + 1, by omega, by go_num, by rw [hv.out]⟩
        case measure => simp [intOf]; omega
      · have hv : Hid (hiM xs (k + 1) = a) := Lib.hid (by rw [hst.out]; omega)
        go_wp2_with fail
        go_round
        case rel => exact ⟨k + 1, by omega, by go_num, by rw [hv.out]⟩
        case measure => simp [intOf]; omega
      · have hv : Hid (hiM xs (k + 1) = a) := Lib.hid (by rw [hst.out]; omega)
        go_wp2_with fail
        go_round
        case rel => exact ⟨k + 1, by omega, by go_num, by rw [hv.out]⟩
        case measure => simp [intOf]; omega
    · obtain rfl : k = n - 1 := by omega
      go_wp2_with fail
      go_ret
      exact ⟨rfl, rfl⟩
set_option maxHeartbeats 2000000 in
theorem rangeLimit_any (r c : Int) (A : Option Addr) (n cp : Nat) (xs : List Int) (w : World) (B : Nat) (hr : RI w B A n xs) (hB : B ≤ w.heap.size) (hn0 : 1 ≤ n) (hn : n ≤ 40000) (hx : ∀ k, k < xs.length → 0 ≤ nth xs k ∧ nth xs k ≤ 255) :
    Calls Try.prog 33 #[.agg #[.int .i64 r, .int .i64 c, .slice A n cp]] w fun e w' => e = .returned (.int .i64 (limL xs)) ∧ Below w.heap.size w w' := by
  have hl := hr.len
  have ha := loM_b hx (n - 1) (by omega)
  have hb := hiM_b hx (n - 1) (by omega)
  have HM := Lib.hid (fun (m : Nat) => Min_any A n cp xs ((w.alloc (.cells #[.int .i64 r, .int .i64 c, .slice A n cp] 28)).drewN m) w.heap.size (((hr.more hB).alloc (Nat.le_refl _) _).below (below_drewN' (Below.refl _ _) m)) hn0 hn)
  have HX := Lib.hid (fun (m : Nat) => Max_any A n cp xs ((w.alloc (.cells #[.int .i64 r, .int .i64 c, .slice A n cp] 28)).drewN m) w.heap.size (((hr.more hB).alloc (Nat.le_refl _) _).below (below_drewN' (Below.refl _ _) m)) hn0 hn)
  unfold limL
  rw [hl]
  generalize loM xs (n - 1) = lo at HM ha ⊢
  generalize hiM xs (n - 1) = hi at HX hb ⊢
  obtain ⟨p, rfl⟩ := Int.eq_ofNat_of_zero_le ha.1
  obtain ⟨q, rfl⟩ := Int.eq_ofNat_of_zero_le hb.1
  obtain ⟨s, hs⟩ : ∃ s : Nat, (p + q + 1) / 2 = s := ⟨_, rfl⟩
  have hsi : ((p : Int) + q + 1) / 2 = (s : Int) := by omega
  have hsl : s ≤ 255 := by omega
  clear hr hl hx hs
  go_enter Try.func33, Try.ntmps33
  go_wp2_with fail
  go_quiet (first | (go_at_call 43; exact Calls.quiet_of_same ((HM.out _).mono (fun _ _ h => ⟨h.1, h.2.symm⟩))) | (go_at_call 42; exact Calls.quiet_of_same ((HX.out _).mono (fun _ _ h => ⟨h.1, h.2.symm⟩))))
  go_wp2_with fail
  go_ret
  exact ⟨rfl, by (repeat (first | (with_reducible assumption) | (with_reducible exact Below.refl _ _) | (with_reducible refine below_drewN' ?_ _) | (with_reducible refine Below.drew ?_) | ((with_reducible refine Below.alloc ?_ ?_ _); rotate_left; focus (first | (simp; done) | (simp; omega) | omega)) | ((with_reducible refine Below.setCell ?_ ?_ _); rotate_left; focus (first | (simp; done) | (simp; omega) | omega))))⟩
end Go.Proofs.Ytkipaefhnmfebaa
