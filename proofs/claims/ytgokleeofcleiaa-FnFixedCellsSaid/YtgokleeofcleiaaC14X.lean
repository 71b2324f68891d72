/-
  Contracts of chapter 14: a cell of a grid, the format places of a size, and what the law of fixed cells draws.
-/
import Derived.Test.YtgokleeofcleiaaC14
import Derived.Test.YtgokleeofcleiaaC14A
import Derived.Test.YtgokleeofcleiaaC14P
import Derived.Test.YtgokleeofcleiaaDr
import Derived.Test.YtgokleeofcleiaaDpF
import Derived.Test.YtgokleeofcleiaaC15C
namespace Go.Proofs.Ytgokleeofcleiaa
set_option linter.unusedSimpArgs false
open Go.RowKit
theorem has_any (N R C : Nat) (v : Value) (w : World) (hN : N ≤ 41) (hR : R < N) (hC : C < N) :
    Calls Try.prog 69 #[.agg #[.int .i64 N, .int .i64 N, v], .agg #[.int .i64 R, .int .i64 C]] w fun e w' =>
      e = .returned (.bool true) ∧ Below w.heap.size w w' := by
  have h1 : inR (R : Int) 0 ((N : Int) - 1) = true := by unfold inR; simp; omega
  have h2 : inR (C : Int) 0 ((N : Int) - 1) = true := by unfold inR; simp; omega
  have h3 : IntKind.i64.wrap ((N : Int) - 1) = (N : Int) - 1 := i64_in (by omega)
  go_enter Try.func69, Try.ntmps69
  go_wp2_with (go_at_call 62; refine (inRange_any _ _ _ _).mono ?_; rintro e w' ⟨rfl, rfl⟩)
  first | go_ret | go_returns
  exact ⟨by simp [h1, h2], by (repeat (first | (with_reducible assumption) | (with_reducible exact Below.refl _ _) | (with_reducible refine below_drewN' ?_ _) | (with_reducible refine Below.drew ?_) | ((with_reducible refine Below.alloc ?_ ?_ _); rotate_left; focus (first | (simp; done) | (simp; omega) | omega)) | ((with_reducible refine Below.setCell ?_ ?_ _); rotate_left; focus (first | (simp; done) | (simp; omega) | omega))))⟩
set_option maxHeartbeats 1000000 in
theorem CellAt_any (N R C b o cp : Nat) (xs : List Int) (w : World) (B : Nat) (hr : RI w B (some ⟨b, o, none⟩) (N * N) xs) (hB : B ≤ w.heap.size) (hN : N ≤ 41) (hR : R < N) (hC : C < N) (hg : gridB N N xs = true) :
    Calls Try.prog 33 #[.agg #[.int .i64 N, .int .i64 N, .slice (some ⟨b, o, none⟩) (N * N) cp], .int .i64 R, .int .i64 C] w fun e w' =>
      e = .returned (.tuple #[.int .i64 (nth xs (R * N + C)), .int .i64 0]) ∧ Below w.heap.size w w' := by
  have hK := cell_lt hR hC
  have hNN : N * N ≤ 1681 := Nat.mul_le_mul hN hN
  have HR := Lib.hid (((hr.more hB).alloc (Nat.le_refl _) (.cells #[.int .i64 (N : Int), .int .i64 (N : Int), .slice (some ⟨b, o, none⟩) (N * N) cp] 28)).alloc (by simp) (.cells #[.int .i64 (R : Int), .int .i64 (C : Int)] 49))
  have P1 := fun (w' : World) (B' : Nat) (hr : RI w' B' (some ⟨b, o, none⟩) (N * N) xs) (hB : B' ≤ w'.heap.size) => IsGrid_any (N : Int) N (some ⟨b, o, none⟩) (N * N) cp xs w' B' hr hB (by omega)
  rw [hg] at P1
  have HP1 := Lib.hid P1
  have hKi : (R : Int) * N + C = ((R * N + C : Nat) : Int) := by simp
  have HK := Lib.hid hKi
  clear hr hg P1 hKi
  go_enter Try.func33, Try.ntmps33
  go_wp2_with fail
  (go_at_call 48; go_call (HP1.out _ w.heap.size HR.out (by simp; omega)) as e1 w1 ⟨rfl, hb1⟩; obtain ⟨hc1, hf1⟩ := bcell hb1; have hB1 : Below w.heap.size w w1 := (below_then (by first | (go_grown; done) | (repeat (first | (with_reducible assumption) | (with_reducible exact Below.refl _ _) | (with_reducible refine below_drewN' ?_ _) | (with_reducible refine Below.drew ?_) | ((with_reducible refine Below.alloc ?_ ?_ _); rotate_left; focus (first | (simp; done) | (simp; omega) | omega)) | ((with_reducible refine Below.setCell ?_ ?_ _); rotate_left; focus (first | (simp; done) | (simp; omega) | omega))))) (by first | omega | (simp; done) | (simp; omega)) hb1); have hz1a : w.heap.size < w1.heap.size := (by have := hb1.size; first | omega | (simp at this; omega)); have hz1b : w.heap.size + 1 < w1.heap.size := (by have := hb1.size; first | omega | (simp at this; omega)))
  have HR1 := Lib.hid (HR.out.below (hb1.mono (by simp; omega)))
  go_wp2_with fail
  (go_at_call 69; go_call (has_any N R C _ _ hN hR hC) as e2 w2 ⟨rfl, hb2⟩; obtain ⟨hc2, hf2⟩ := bcell hb2; have hB2 : Below w.heap.size w w2 := (below_then (by first | (go_grown; done) | (repeat (first | (with_reducible assumption) | (with_reducible exact Below.refl _ _) | (with_reducible refine below_drewN' ?_ _) | (with_reducible refine Below.drew ?_) | ((with_reducible refine Below.alloc ?_ ?_ _); rotate_left; focus (first | (simp; done) | (simp; omega) | omega)) | ((with_reducible refine Below.setCell ?_ ?_ _); rotate_left; focus (first | (simp; done) | (simp; omega) | omega))))) (by first | omega | (simp; done) | (simp; omega)) hb2); have hz2a : w.heap.size < w2.heap.size := (by have := hb2.size; first | omega | (simp at this; omega)); have hz2b : w.heap.size + 1 < w2.heap.size := (by have := hb2.size; first | omega | (simp at this; omega)))
  have HR2 := Lib.hid (HR1.out.below (hb2.mono (by have := hb1.size; simp at this; omega)))
  go_wp2_with fail
  (go_at_call 70; go_call (at_any N N R C b o cp (N * N) (R * N + C) xs _ w.heap.size HR2.out (by omega) (by omega) HK.out hK (by omega)) as e3 w3 ⟨rfl, hb3⟩; obtain ⟨hc3, hf3⟩ := bcell hb3; have hB3 : Below w.heap.size w w3 := (below_then (by first | (go_grown; done) | (repeat (first | (with_reducible assumption) | (with_reducible exact Below.refl _ _) | (with_reducible refine below_drewN' ?_ _) | (with_reducible refine Below.drew ?_) | ((with_reducible refine Below.alloc ?_ ?_ _); rotate_left; focus (first | (simp; done) | (simp; omega) | omega)) | ((with_reducible refine Below.setCell ?_ ?_ _); rotate_left; focus (first | (simp; done) | (simp; omega) | omega))))) (by first | omega | (simp; done) | (simp; omega)) hb3))
  go_wp2_with fail
  go_returns
  exact ⟨rfl, by (repeat (first | (with_reducible assumption) | (with_reducible exact Below.refl _ _) | (with_reducible refine below_drewN' ?_ _) | (with_reducible refine Below.drew ?_) | ((with_reducible refine Below.alloc ?_ ?_ _); rotate_left; focus (first | (simp; done) | (simp; omega) | omega)) | ((with_reducible refine Below.setCell ?_ ?_ _); rotate_left; focus (first | (simp; done) | (simp; omega) | omega))))⟩
set_option maxHeartbeats 1000000 in
theorem FormatPlaces_any (N : Nat) (w : World) (hN : 17 ≤ N ∧ N ≤ 41 ∧ N % 4 = 1) :
    Calls Try.prog 31 #[.int .i64 N] w fun e w' => ∃ v1 v2, e = .returned (.tuple #[v1, v2, .int .i64 0]) ∧ Two w' w.heap.size v1 fmtA v2 (fmtB N) ∧ Below w.heap.size w w' := by
  have hs := size_nat hN
  have HF := Lib.hid (fun w => formats_any N w ⟨hN.1, hN.2.1⟩)
  clear hN
  go_enter Try.func31, Try.ntmps31
  go_wp2_with first | (go_at_call 52; refine (isMatrixSize_any _ _).mono ?_; rintro e w' ⟨rfl, rfl⟩)
  (go_at_call 68; with_reducible refine (HF.out _).mono ?_; rintro e1 w1 ⟨v1, v2, rfl, ho1, hb1⟩; obtain ⟨hc1, hf1⟩ := bcell hb1; have hB1 : Below w.heap.size w w1 := (below_then (by first | (go_grown; done) | (repeat (first | (with_reducible assumption) | (with_reducible exact Below.refl _ _) | (with_reducible refine below_drewN' ?_ _) | (with_reducible refine Below.drew ?_) | ((with_reducible refine Below.alloc ?_ ?_ _); rotate_left; focus (first | (simp; done) | (simp; omega) | omega)) | ((with_reducible refine Below.setCell ?_ ?_ _); rotate_left; focus (first | (simp; done) | (simp; omega) | omega))))) (by first | omega | (simp; done) | (simp; omega)) hb1))
  obtain ⟨A1, c1, rfl⟩ := ho1.1.form
  obtain ⟨A2, c2, rfl⟩ := ho1.2.1.form
  have HO := Lib.hid ho1
  clear ho1
  go_wp2_with fail
  go_returns
  exact ⟨_, _, rfl, HO.out, by (repeat (first | (with_reducible assumption) | (with_reducible exact Below.refl _ _) | (with_reducible refine below_drewN' ?_ _) | (with_reducible refine Below.drew ?_) | ((with_reducible refine Below.alloc ?_ ?_ _); rotate_left; focus (first | (simp; done) | (simp; omega) | omega)) | ((with_reducible refine Below.setCell ?_ ?_ _); rotate_left; focus (first | (simp; done) | (simp; omega) | omega))))⟩
set_option maxHeartbeats 2000000 in
theorem DrawFixedGrid_any (A : Option Addr) (n c : Nat) (bs : List Int) (B : Nat) (w0 : World) (hb : RB w0 B A n bs) (hB0 : B ≤ w0.heap.size) (hn : n ≤ 4096) :
    Calls Try.prog 29 #[.slice A n c] w0 fun e w' =>
      ∃ u, e = .returned u ∧ (∃ m : Int, u = .int .i64 m) ∧ Below w0.heap.size w0 w' := by
  have HRB := Lib.hid hb
  clear hb
  go_enter Try.func29, Try.ntmps29
  go_wp2_with fail
  (go_at_call 66; go_call (l01From_any A n c bs w0 B HRB.out hB0 hn) as e w ⟨rfl, hs, hb0⟩)
  have hI : (srcP 99 w0.heap.size A n c bs B).I w := ⟨hs, HRB.out.below (hb0.mono hB0), hB0, hn⟩
  obtain ⟨b, hbd⟩ : ∃ b, w0.heap.size = b := ⟨_, rfl⟩
  have H0 : Hid (Below b w0 w) := Lib.hid (hbd ▸ hb0)
  rw [hbd] at hI ⊢
  have hbw := srcP_lt hI
  have HI := Lib.hid hI
  have HBD := Lib.hid hbd
  clear hI hs hb0
  go_wp2_with fail
  (go_at_call 65; with_reducible refine (l14DrawSize_any b A n c bs B _ (bxinv (B := w.heap.size) ?_ HI)).mono ?_; (focus (repeat (first | (with_reducible assumption) | (with_reducible exact BX.refl _ _ _) | (with_reducible refine BX.drewN ?_ _) | (with_reducible refine BX.drew ?_) | ((with_reducible refine BX.alloc ?_ ?_ _); rotate_left; (focus (first | (simp; done) | omega | (simp; omega) | (simp [srcP]; done) | (simp [srcP]; omega)))) | ((with_reducible refine BX.setCell ?_ ?_ ?_ _); rotate_left; (focus (first | (simp; done) | omega | (simp; omega) | (simp [srcP]; done) | (simp [srcP]; omega))); (focus (first | (simp; done) | omega | (simp; omega) | (simp [srcP]; done) | (simp [srcP]; omega))))))); rintro e1 w1 ⟨u1, rfl, ⟨m, rfl, hm1, hm2⟩, hb1⟩; have hB1 : BX (srcP 99 b A n c bs B) w.heap.size w w1 := BX.then (by (repeat (first | (with_reducible assumption) | (with_reducible exact BX.refl _ _ _) | (with_reducible refine BX.drewN ?_ _) | (with_reducible refine BX.drew ?_) | ((with_reducible refine BX.alloc ?_ ?_ _); rotate_left; (focus (first | (simp; done) | omega | (simp; omega) | (simp [srcP]; done) | (simp [srcP]; omega)))) | ((with_reducible refine BX.setCell ?_ ?_ ?_ _); rotate_left; (focus (first | (simp; done) | omega | (simp; omega) | (simp [srcP]; done) | (simp [srcP]; omega))); (focus (first | (simp; done) | omega | (simp; omega) | (simp [srcP]; done) | (simp [srcP]; omega))))))) (by first | omega | (simp; done) | (simp; omega)) hb1; have hc1 := bxcell hb1; have hf1 := bxfrozen hb1; simp only [srcP_b] at hc1 hf1)
  go_wp2_with fail
  go_returns
  exact ⟨_, by first | (simp; done) | (simp; rfl), ⟨m, rfl⟩, by rw [HBD.out]; exact H0.out.trans ((hB1.mono (Nat.le_of_lt hbw)).below (Nat.le_refl _))⟩
end Go.Proofs.Ytgokleeofcleiaa
