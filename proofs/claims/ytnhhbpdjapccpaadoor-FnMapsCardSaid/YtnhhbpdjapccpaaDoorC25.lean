/-
  Contracts of chapter 25: maps.
-/
import Derived.Test.YtnhhbpdjapccpaaDoorGcd
namespace Go.Proofs.YtnhhbpdjapccpaaDoor
open Go.RowKit

def inAll (xs : List Int) (l h : Int) : Bool := xs.all fun x => inR x l h
theorem inAll_snoc (xs : List Int) (x l h : Int) : inAll (xs ++ [x]) l h = (inAll xs l h && inR x l h) := by
  unfold inAll; simp
theorem inAll_take {xs : List Int} {k : Nat} {l h : Int} (hk : k < xs.length) : inAll (xs.take (k + 1)) l h = (inAll (xs.take k) l h && inR (nth xs k) l h) := by
  rw [take_nth hk, inAll_snoc]
theorem inAll_false {xs : List Int} {k : Nat} {l h : Int} (hk : k < xs.length) (e : inR (nth xs k) l h = false) : inAll xs l h = false := by
  unfold inAll
  rw [List.all_eq_false]
  exact ⟨_, nth_mem hk, by simp [e]⟩
theorem inAll_mem {xs : List Int} {l h : Int} (e : inAll xs l h = true) {x : Int} (hx : x ∈ xs) : l ≤ x ∧ x ≤ h :=
  inR_true (List.all_eq_true.1 e x hx)
/-- A valid map, by its nine entries. -/
def isMapB (xs : List Int) : Bool := inAll xs (-10000000000000) 10000000000000 && decide (0 < nth xs 8) && ((gcdL xs : Int) == 1)

theorem isMapB_no1 {xs : List Int} {k : Nat} (hk : k < xs.length) (e : inR (nth xs k) (-10000000000000) 10000000000000 = false) : isMapB xs = false := by
  unfold isMapB; rw [inAll_false hk e]; rfl
theorem isMapB_no2 {xs : List Int} {i : Int} (h8 : nth xs 8 = i) (hi : i ≤ 0) : isMapB xs = false := by
  unfold isMapB; rw [h8, show decide (0 < i) = false from by simp; omega]; simp
theorem isMapB_yes {xs : List Int} {i : Int} (hA : inAll xs (-10000000000000) 10000000000000 = true) (h8 : nth xs 8 = i) (hi : 0 < i) : isMapB xs = ((gcdL xs : Int) == 1) := by
  unfold isMapB; rw [hA, h8]; simp [hi]

set_option maxHeartbeats 400000 in
theorem entries_any (a b c d e f g h i : Int) (w : World) :
    Calls Tryd.prog 19 #[.agg #[.int .i64 a, .int .i64 b, .int .i64 c, .int .i64 d, .int .i64 e, .int .i64 f, .int .i64 g, .int .i64 h, .int .i64 i]] w fun e' w' =>
      e' = .returned (.agg #[.int .i64 a, .int .i64 b, .int .i64 c, .int .i64 d, .int .i64 e, .int .i64 f, .int .i64 g, .int .i64 h, .int .i64 i]) ∧ Below w.heap.size w w' := by
  go_enter Tryd.func19, Tryd.ntmps19
  go_wp2
  go_returns
  exact ⟨rfl, by go_grown⟩
set_option maxHeartbeats 400000 in
theorem l25List_any (a b c d e f g h i : Int) (w : World) :
    Calls Tryd.prog 17 #[.agg #[.int .i64 a, .int .i64 b, .int .i64 c, .int .i64 d, .int .i64 e, .int .i64 f, .int .i64 g, .int .i64 h, .int .i64 i]] w fun e' w' =>
      ∃ A, e' = .returned (.slice A 9 9) ∧ RI w' w'.heap.size A 9 [a, b, c, d, e, f, g, h, i] ∧ Below w.heap.size w w' := by
  go_enter Tryd.func17, Tryd.ntmps17
  go_wp2
  go_ret
  exact ⟨_, rfl, RI.made0 rfl rfl (by rw [World.size_alloc]), by go_grown⟩
theorem info_i64 : (Tryd.prog.info? 2).map (fun i => (i.zero, i.size, i.bytes)) = some (some (.int .i64 0), 1, 8) := by kernel_rfl
set_option maxHeartbeats 400000 in
theorem IsMap_any (a b c d e f g h i : Int) (w : World) :
    Calls Tryd.prog 15 #[.agg #[.int .i64 a, .int .i64 b, .int .i64 c, .int .i64 d, .int .i64 e, .int .i64 f, .int .i64 g, .int .i64 h, .int .i64 i]] w fun e' w' =>
      e' = .returned (.bool (isMapB [a, b, c, d, e, f, g, h, i])) ∧ Below w.heap.size w w' := by
  obtain ⟨i0, hi, hz0, hz1, hz2⟩ := info_parts info_i64
  obtain ⟨xs, hxs⟩ : ∃ xs, xs = [a, b, c, d, e, f, g, h, i] := ⟨_, rfl⟩
  have hxl : xs.length = 9 := by rw [hxs]; rfl
  have hx8 : nth xs 8 = i := by rw [hxs]; rfl
  go_enter Tryd.func15, Tryd.ntmps15
  have HX := Lib.hid hxs
  have HL := Lib.hid hxl
  have H8 := Lib.hid hx8
  clear hxs hxl hx8
  have HI := Lib.hid (And.intro hi hz1)
  clear hi hz0 hz1 hz2
  go_wp2_with (go_at_call 19; go_call (entries_any _ _ _ _ _ _ _ _ _ _) as e1 w1 ⟨rfl, hb1⟩; obtain ⟨hc1, hf1⟩ := bcell hb1; have hB1 : Below w.heap.size w w1 := (below_then (by first | (go_grown; done) | (repeat (first | (with_reducible assumption) | (with_reducible exact Below.refl _ _) | (with_reducible refine below_drewN' ?_ _) | (with_reducible refine Below.drew ?_) | ((with_reducible refine Below.alloc ?_ ?_ _); rotate_left; focus (first | (simp; done) | (simp; omega) | omega)) | ((with_reducible refine Below.setCell ?_ ?_ _); rotate_left; focus (first | (simp; done) | (simp; omega) | omega))))) (by first | omega | (simp; done) | (simp; omega)) hb1); have hz1a : w.heap.size < w1.heap.size := (by have := hb1.size; first | omega | (simp at this; omega)))
  go_loop [9] (fun j => ∃ k : Nat, k ≤ 9 ∧ j = .int .i64 k ∧ Hid (inAll (xs.take k) (-10000000000000) 10000000000000 = true)) (fun j => 9 - (intOf j).toNat)
  case atStart => exact ⟨0, by omega, rfl, rfl⟩
  case round =>
    obtain ⟨k, hk, rfl, hall⟩ := hrel
    by_cases hlt : k < 9
    · have hix := fun w => run_index_ints (P := Tryd.prog) (t := 44) (e := 2) Tryd.underlying44 Tryd.underlying2 HI.out.1 HI.out.2 (cs := #[.int .i64 a, .int .i64 b, .int .i64 c, .int .i64 d, .int .i64 e, .int .i64 f, .int .i64 g, .int .i64 h, .int .i64 i]) (xs := xs) (by rw [HX.out]; rfl) HL.out hlt w
      cases he : inR (nth xs k) (-10000000000000) 10000000000000
      · go_wp2_with (go_at_call 31; refine (inRange_any _ _ _ _).mono ?_; rintro e w' ⟨rfl, rfl⟩)
        go_ret
        exact ⟨ret_bool (by rw [← HX.out, isMapB_no1 (by rw [HL.out]; exact hlt) he]), by go_grown⟩
      · go_wp2_with (go_at_call 31; refine (inRange_any _ _ _ _).mono ?_; rintro e w' ⟨rfl, rfl⟩)
        go_round
        case rel => exact ⟨k + 1, by omega, by go_num, by rw [inAll_take (by rw [HL.out]; exact hlt), hall.out, he]; rfl⟩
        case measure => simp [intOf]; omega
    · have hk9 : k = 9 := by omega
      have hA : inAll xs (-10000000000000) 10000000000000 = true := by have := hall.out; rwa [hk9, List.take_of_length_le (by rw [HL.out]; exact Nat.le_refl _)] at this
      have HA := Lib.hid hA
      clear hA hk9
      have hbd : ∀ x ∈ xs, x.natAbs ≤ 9223372036854775807 := fun x hx => by have := inAll_mem HA.out hx; omega
      have HB := Lib.hid hbd
      clear hbd
      by_cases h8 : 0 < i
      · go_wp2_with (go_at_call 32; go_call (common_any _ 9 9 xs _ _ (RI.made0 (by rw [HX.out]; rfl) HL.out rfl) (by omega) HB.out) as e2 w2 ⟨rfl, m2, rfl⟩)
        go_ret
        exact ⟨ret_bool (by rw [← HX.out, isMapB_yes HA.out H8.out h8]), below_drewN' (by go_grown) _⟩
      · go_wp2_with fail
        go_ret
        exact ⟨ret_bool (by rw [← HX.out, isMapB_no2 H8.out (by omega)]), by go_grown⟩
set_option maxHeartbeats 400000 in
theorem sIsMap_any (a b c d e f g h i : Int) (w : World) :
    Calls Tryd.prog 16 #[.agg #[.int .i64 a, .int .i64 b, .int .i64 c, .int .i64 d, .int .i64 e, .int .i64 f, .int .i64 g, .int .i64 h, .int .i64 i]] w fun e' w' =>
      e' = .returned (.bool (isMapB [a, b, c, d, e, f, g, h, i])) ∧ Below w.heap.size w w' := by
  obtain ⟨xs, hxs⟩ : ∃ xs, xs = [a, b, c, d, e, f, g, h, i] := ⟨_, rfl⟩
  have hxl : xs.length = 9 := by rw [hxs]; rfl
  have hx8 : nth xs 8 = i := by rw [hxs]; rfl
  go_enter Tryd.func16, Tryd.ntmps16
  have HX := Lib.hid hxs
  have HL := Lib.hid hxl
  have H8 := Lib.hid hx8
  clear hxs hxl hx8
  go_wp2_with (go_at_call 17; go_call (l25List_any _ _ _ _ _ _ _ _ _ _) as e1 w1 ⟨A1, rfl, hr1, hb1⟩; obtain ⟨hc1, hf1⟩ := bcell hb1; have hB1 : Below w.heap.size w w1 := (below_then (by first | (go_grown; done) | (repeat (first | (with_reducible assumption) | (with_reducible exact Below.refl _ _) | (with_reducible refine below_drewN' ?_ _) | (with_reducible refine Below.drew ?_) | ((with_reducible refine Below.alloc ?_ ?_ _); rotate_left; focus (first | (simp; done) | (simp; omega) | omega)) | ((with_reducible refine Below.setCell ?_ ?_ _); rotate_left; focus (first | (simp; done) | (simp; omega) | omega))))) (by first | omega | (simp; done) | (simp; omega)) hb1); have hz1a : w.heap.size < w1.heap.size := (by have := hb1.size; first | omega | (simp at this; omega)))
  rw [← HX.out] at hr1
  have HR := Lib.hid hr1
  clear hr1
  go_loop [4] (fun j => ∃ k : Nat, k ≤ 9 ∧ j = .int .i64 k ∧ Hid (inAll (xs.take k) (-10000000000000) 10000000000000 = true)) (fun j => 9 - (intOf j).toNat)
  case atStart => exact ⟨0, by omega, rfl, rfl⟩
  case round =>
    obtain ⟨k, hk, rfl, hall⟩ := hrel
    by_cases hlt : k < 9
    · obtain ⟨b1, o1, rfl, hb1', hcl⟩ := HR.out.cells (by omega)
      have hck := hcl k hlt
      clear hcl
      cases he : inR (nth xs k) (-10000000000000) 10000000000000
      · go_wp2_with (go_at_call 33; refine (l01In_any _ _ _ _).mono ?_; rintro e w' ⟨rfl, rfl⟩)
        go_ret
        exact ⟨ret_bool (by rw [← HX.out, isMapB_no1 (by rw [HL.out]; exact hlt) he]), by go_grown⟩
      · go_wp2_with (go_at_call 33; refine (l01In_any _ _ _ _).mono ?_; rintro e w' ⟨rfl, rfl⟩)
        go_round
        case rel => exact ⟨k + 1, by omega, by go_num, by rw [inAll_take (by rw [HL.out]; exact hlt), hall.out, he]; rfl⟩
        case measure => simp [intOf]; omega
    · have hk9 : k = 9 := by omega
      have hA : inAll xs (-10000000000000) 10000000000000 = true := by have := hall.out; rwa [hk9, List.take_of_length_le (by rw [HL.out]; exact Nat.le_refl _)] at this
      have HA := Lib.hid hA
      clear hA hk9
      have hbd : ∀ x ∈ xs, x.natAbs ≤ 9223372036854775807 := fun x hx => by have := inAll_mem HA.out hx; omega
      have HB := Lib.hid hbd
      clear hbd
      by_cases h8 : 0 < i
      · go_wp2_with (go_at_call 34; go_call (l25Gcd_any _ 9 9 xs _ _ HR.out (by omega) HB.out) as e2 w2 ⟨rfl, rfl⟩)
        go_ret
        exact ⟨ret_bool (by rw [← HX.out, isMapB_yes HA.out H8.out h8]), by go_grown⟩
      · go_wp2_with fail
        go_ret
        exact ⟨ret_bool (by rw [← HX.out, isMapB_no2 H8.out (by omega)]), by go_grown⟩
set_option maxHeartbeats 400000 in
theorem toMap_any (a b c d e f g h i : Int) (w : World) :
    Calls Tryd.prog 6 #[.agg #[.int .i64 a, .int .i64 b, .int .i64 c, .int .i64 d, .int .i64 e, .int .i64 f, .int .i64 g, .int .i64 h, .int .i64 i]] w fun e' w' =>
      e' = .returned (.agg #[.int .i64 a, .int .i64 b, .int .i64 c, .int .i64 d, .int .i64 e, .int .i64 f, .int .i64 g, .int .i64 h, .int .i64 i]) ∧ Below w.heap.size w w' := by
  go_enter Tryd.func6, Tryd.ntmps6
  go_wp2
  go_returns
  exact ⟨rfl, by go_grown⟩
set_option maxHeartbeats 400000 in
theorem IsAffine_any (a b c d e f g h i : Int) (w : World) :
    Calls Tryd.prog 14 #[.agg #[.int .i64 a, .int .i64 b, .int .i64 c, .int .i64 d, .int .i64 e, .int .i64 f, .int .i64 g, .int .i64 h, .int .i64 i]] w fun e' w' =>
      e' = .returned (.bool (isMapB [a, b, c, d, e, f, g, h, i] && (g == 0 && h == 0))) ∧ Below w.heap.size w w' := by
  go_enter Tryd.func14, Tryd.ntmps14
  go_wp2_with (go_at_call 15; go_call (IsMap_any _ _ _ _ _ _ _ _ _ _) as e1 w1 ⟨rfl, hb1⟩; obtain ⟨hc1, hf1⟩ := bcell hb1; have hB1 : Below w.heap.size w w1 := (below_then (by first | (go_grown; done) | (repeat (first | (with_reducible assumption) | (with_reducible exact Below.refl _ _) | (with_reducible refine below_drewN' ?_ _) | (with_reducible refine Below.drew ?_) | ((with_reducible refine Below.alloc ?_ ?_ _); rotate_left; focus (first | (simp; done) | (simp; omega) | omega)) | ((with_reducible refine Below.setCell ?_ ?_ _); rotate_left; focus (first | (simp; done) | (simp; omega) | omega))))) (by first | omega | (simp; done) | (simp; omega)) hb1); have hz1a : w.heap.size < w1.heap.size := (by have := hb1.size; first | omega | (simp at this; omega)))
  all_goals (go_ret; exact ⟨ret_bool (by clear hb1 hc1 hf1; generalize isMapB [a, b, c, d, e, f, g, h, i] = q at *; cases q <;> simp_all), by go_grown⟩)
end Go.Proofs.YtnhhbpdjapccpaaDoor
