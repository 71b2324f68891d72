/-
  Contracts of chapter 26: SampleFive, both sides. Printed by gen/c26q.py.
-/
import Derived.Test.YtflpllmbpfdnjaaC26L
import Derived.Test.YtflpllmbpfdnjaaC26S
import Derived.Deep.RegionHeld3
namespace Go.Proofs.Ytflpllmbpfdnjaa
set_option linter.unusedSimpArgs false
open Go.RowKit

/-- The five samples of a module. -/
def fivL (mid : Int) (tk : Nat → Nat → Nat → Nat → Int) (R C r c : Nat) : List Int :=
  [mid, tk (4 * c + 1) (4 * C) (4 * r + 1) (4 * R), tk (4 * c + 3) (4 * C) (4 * r + 1) (4 * R), tk (4 * c + 1) (4 * C) (4 * r + 3) (4 * R), tk (4 * c + 3) (4 * C) (4 * r + 3) (4 * R)]
theorem fiv_bd {R C r c a b : Nat} (h : R * C ≤ 3500) (hr : r < R) (hc : c < C) (ha : a ≤ 3) (hb : b ≤ 3) : (4 * c + a) * (4 * R) ≤ 56000 ∧ (4 * r + b) * (4 * C) ≤ 56000 ∧ 4 * C * (4 * R) ≤ 56000 := by
  have h1 := Nat.mul_le_mul (show 4 * c + a ≤ 4 * C by omega) (Nat.le_refl (4 * R))
  have h2 := Nat.mul_le_mul (show 4 * r + b ≤ 4 * R by omega) (Nat.le_refl (4 * C))
  have e1 : 4 * C * (4 * R) = 16 * (R * C) := by rw [Nat.mul_mul_mul_comm, Nat.mul_comm C R]
  have e2 : 4 * R * (4 * C) = 16 * (R * C) := by rw [Nat.mul_mul_mul_comm]
  omega
set_option maxRecDepth 20000 in
set_option maxHeartbeats 8000000 in
theorem five1_any (PR PC : Nat) (A : Option Addr) (n cp : Nat) (xs : List Int) (m0 m1 m2 m3 m4 m5 m6 m7 m8 : Int) (R C : Nat) (lim mar : Int) (r c : Nat) (w : World) (B : Nat) (hr : RI w B A n xs) (hB : B ≤ w.heap.size) (hn : n = PR * PC) (hn2 : PR * PC ≤ 40000) (hPR : PR ≤ 400) (hPC : PC ≤ 400) (hxs : ∀ k, k < n → 0 ≤ nth xs k ∧ nth xs k ≤ 255)
    (hmap : isMapB [m0, m1, m2, m3, m4, m5, m6, m7, m8] = true) (hlim : 0 ≤ lim ∧ lim ≤ 256) (hmar : 0 ≤ mar ∧ mar ≤ 256) (hR : R ≤ 3500) (hC : C ≤ 3500) (hRC : R * C ≤ 3500) (hr1 : r < R) (hc1 : c < C) :
    Calls Try.prog 91 #[.agg #[.int .i64 PR, .int .i64 PC, .slice A n cp, .int .i64 m0, .int .i64 m1, .int .i64 m2, .int .i64 m3, .int .i64 m4, .int .i64 m5, .int .i64 m6, .int .i64 m7, .int .i64 m8, .int .i64 R, .int .i64 C, .int .i64 lim, .int .i64 mar], .int .i64 r, .int .i64 c] w fun e w' => ∃ v, e = .returned v ∧ Own w' w.heap.size v (fivL (samV PR PC xs m0 m1 m2 m3 m4 m5 m6 m7 m8 R C lim mar r c) (tkF PR PC xs m0 m1 m2 m3 m4 m5 m6 m7 m8 lim mar) R C r c) ∧ Below w.heap.size w w' := by
  obtain ⟨i0, hi⟩ := info_own' info_i64s
  have HI := Lib.hid (And.intro i0.bytes.le_refl hi)
  clear hi
  have HMD := Lib.hid (fun (w' : World) (hb : Below w.heap.size w w') => middle_any PR PC A n cp xs m0 m1 m2 m3 m4 m5 m6 m7 m8 R C lim mar r c w' w.heap.size ((hr.more hB).below hb) hb.size hn hn2 hPR hPC hxs hmap hlim hmar hR hC hRC hr1 hc1)
  have HT00 := Lib.hid (fun (w' : World) (hb : Below w.heap.size w w') => (show Calls Try.prog 85 #[.agg #[.int .i64 PR, .int .i64 PC, .slice A n cp, .int .i64 m0, .int .i64 m1, .int .i64 m2, .int .i64 m3, .int .i64 m4, .int .i64 m5, .int .i64 m6, .int .i64 m7, .int .i64 m8, .int .i64 R, .int .i64 C, .int .i64 lim, .int .i64 mar], .int .i64 ((4 * c + 1 : Nat) : Int), .int .i64 ((4 * C : Nat) : Int), .int .i64 ((4 * r + 1 : Nat) : Int), .int .i64 ((4 * R : Nat) : Int)] w' fun e w'' => e = .returned (.int .i64 ((tkF PR PC xs m0 m1 m2 m3 m4 m5 m6 m7 m8 lim mar) (4 * c + 1) (4 * C) (4 * r + 1) (4 * R))) ∧ Below w'.heap.size w' w'' from by
    obtain ⟨b1, b2, b3⟩ := fiv_bd (a := 1) (b := 1) hRC hr1 hc1 (by decide) (by decide)
    exact take_any PR PC A n cp xs m0 m1 m2 m3 m4 m5 m6 m7 m8 R C lim mar (4 * c + 1) (4 * C) (4 * r + 1) (4 * R) w' w.heap.size ((hr.more hB).below hb) hb.size hn hn2 hPR hPC hxs hmap hlim hmar (by omega) (by omega) (by omega) (by omega) (by omega) (by omega) (by omega)))
  have HT01 := Lib.hid (fun (w' : World) (hb : Below w.heap.size w w') => (show Calls Try.prog 85 #[.agg #[.int .i64 PR, .int .i64 PC, .slice A n cp, .int .i64 m0, .int .i64 m1, .int .i64 m2, .int .i64 m3, .int .i64 m4, .int .i64 m5, .int .i64 m6, .int .i64 m7, .int .i64 m8, .int .i64 R, .int .i64 C, .int .i64 lim, .int .i64 mar], .int .i64 ((4 * c + 3 : Nat) : Int), .int .i64 ((4 * C : Nat) : Int), .int .i64 ((4 * r + 1 : Nat) : Int), .int .i64 ((4 * R : Nat) : Int)] w' fun e w'' => e = .returned (.int .i64 ((tkF PR PC xs m0 m1 m2 m3 m4 m5 m6 m7 m8 lim mar) (4 * c + 3) (4 * C) (4 * r + 1) (4 * R))) ∧ Below w'.heap.size w' w'' from by
    obtain ⟨b1, b2, b3⟩ := fiv_bd (a := 3) (b := 1) hRC hr1 hc1 (by decide) (by decide)
    exact take_any PR PC A n cp xs m0 m1 m2 m3 m4 m5 m6 m7 m8 R C lim mar (4 * c + 3) (4 * C) (4 * r + 1) (4 * R) w' w.heap.size ((hr.more hB).below hb) hb.size hn hn2 hPR hPC hxs hmap hlim hmar (by omega) (by omega) (by omega) (by omega) (by omega) (by omega) (by omega)))
  have HT10 := Lib.hid (fun (w' : World) (hb : Below w.heap.size w w') => (show Calls Try.prog 85 #[.agg #[.int .i64 PR, .int .i64 PC, .slice A n cp, .int .i64 m0, .int .i64 m1, .int .i64 m2, .int .i64 m3, .int .i64 m4, .int .i64 m5, .int .i64 m6, .int .i64 m7, .int .i64 m8, .int .i64 R, .int .i64 C, .int .i64 lim, .int .i64 mar], .int .i64 ((4 * c + 1 : Nat) : Int), .int .i64 ((4 * C : Nat) : Int), .int .i64 ((4 * r + 3 : Nat) : Int), .int .i64 ((4 * R : Nat) : Int)] w' fun e w'' => e = .returned (.int .i64 ((tkF PR PC xs m0 m1 m2 m3 m4 m5 m6 m7 m8 lim mar) (4 * c + 1) (4 * C) (4 * r + 3) (4 * R))) ∧ Below w'.heap.size w' w'' from by
    obtain ⟨b1, b2, b3⟩ := fiv_bd (a := 1) (b := 3) hRC hr1 hc1 (by decide) (by decide)
    exact take_any PR PC A n cp xs m0 m1 m2 m3 m4 m5 m6 m7 m8 R C lim mar (4 * c + 1) (4 * C) (4 * r + 3) (4 * R) w' w.heap.size ((hr.more hB).below hb) hb.size hn hn2 hPR hPC hxs hmap hlim hmar (by omega) (by omega) (by omega) (by omega) (by omega) (by omega) (by omega)))
  have HT11 := Lib.hid (fun (w' : World) (hb : Below w.heap.size w w') => (show Calls Try.prog 85 #[.agg #[.int .i64 PR, .int .i64 PC, .slice A n cp, .int .i64 m0, .int .i64 m1, .int .i64 m2, .int .i64 m3, .int .i64 m4, .int .i64 m5, .int .i64 m6, .int .i64 m7, .int .i64 m8, .int .i64 R, .int .i64 C, .int .i64 lim, .int .i64 mar], .int .i64 ((4 * c + 3 : Nat) : Int), .int .i64 ((4 * C : Nat) : Int), .int .i64 ((4 * r + 3 : Nat) : Int), .int .i64 ((4 * R : Nat) : Int)] w' fun e w'' => e = .returned (.int .i64 ((tkF PR PC xs m0 m1 m2 m3 m4 m5 m6 m7 m8 lim mar) (4 * c + 3) (4 * C) (4 * r + 3) (4 * R))) ∧ Below w'.heap.size w' w'' from by
    obtain ⟨b1, b2, b3⟩ := fiv_bd (a := 3) (b := 3) hRC hr1 hc1 (by decide) (by decide)
    exact take_any PR PC A n cp xs m0 m1 m2 m3 m4 m5 m6 m7 m8 R C lim mar (4 * c + 3) (4 * C) (4 * r + 3) (4 * R) w' w.heap.size ((hr.more hB).below hb) hb.size hn hn2 hPR hPC hxs hmap hlim hmar (by omega) (by omega) (by omega) (by omega) (by omega) (by omega) (by omega)))
  unfold fivL
  generalize samV PR PC xs m0 m1 m2 m3 m4 m5 m6 m7 m8 R C lim mar r c = v0 at *
  generalize (tkF PR PC xs m0 m1 m2 m3 m4 m5 m6 m7 m8 lim mar) (4 * c + 1) (4 * C) (4 * r + 1) (4 * R) = t00 at *
  generalize (tkF PR PC xs m0 m1 m2 m3 m4 m5 m6 m7 m8 lim mar) (4 * c + 3) (4 * C) (4 * r + 1) (4 * R) = t01 at *
  generalize (tkF PR PC xs m0 m1 m2 m3 m4 m5 m6 m7 m8 lim mar) (4 * c + 1) (4 * C) (4 * r + 3) (4 * R) = t10 at *
  generalize (tkF PR PC xs m0 m1 m2 m3 m4 m5 m6 m7 m8 lim mar) (4 * c + 3) (4 * C) (4 * r + 3) (4 * R) = t11 at *
  obtain ⟨X1, hX1⟩ : ∃ X : Nat, 4 * c + 1 = X := ⟨_, rfl⟩
  obtain ⟨X3, hX3⟩ : ∃ X : Nat, 4 * c + 3 = X := ⟨_, rfl⟩
  obtain ⟨Y1, hY1⟩ : ∃ X : Nat, 4 * r + 1 = X := ⟨_, rfl⟩
  obtain ⟨Y3, hY3⟩ : ∃ X : Nat, 4 * r + 3 = X := ⟨_, rfl⟩
  obtain ⟨M, hM⟩ : ∃ X : Nat, 4 * C = X := ⟨_, rfl⟩
  obtain ⟨K, hK⟩ : ∃ X : Nat, 4 * R = X := ⟨_, rfl⟩
  rw [hX1, hY1, hM, hK] at HT00
  rw [hX3, hY1, hM, hK] at HT01
  rw [hX1, hY3, hM, hK] at HT10
  rw [hX3, hY3, hM, hK] at HT11
  have e1 : 4 * (c : Int) + 1 = (X1 : Int) := by omega
  have e2 : 4 * (c : Int) + 3 = (X3 : Int) := by omega
  have e3 : 4 * (r : Int) + 1 = (Y1 : Int) := by omega
  have e4 : 4 * (r : Int) + 3 = (Y3 : Int) := by omega
  have e5 : 4 * (C : Int) = (M : Int) := by omega
  have e6 : 4 * (R : Int) = (K : Int) := by omega
  have b1 : X1 ≤ 14001 ∧ X3 ≤ 14003 ∧ Y1 ≤ 14001 ∧ Y3 ≤ 14003 ∧ M ≤ 14000 ∧ K ≤ 14000 := by omega
  clear hr hn hxs hmap hRC hX1 hX3 hY1 hY3 hM hK
  have ix0 : ∀ w, (Instr.index 122 (.agg #[.int .i64 Y1, .int .i64 Y3]) (.int .i64 0)).run Try.prog w = .ok (.int .i64 Y1) w := fun _ => by kernel_rfl
  have ix1 : ∀ w, (Instr.index 122 (.agg #[.int .i64 Y1, .int .i64 Y3]) (.int .i64 1)).run Try.prog w = .ok (.int .i64 Y3) w := fun _ => by kernel_rfl
  have ix2 : ∀ w, (Instr.index 122 (.agg #[.int .i64 X1, .int .i64 X3]) (.int .i64 0)).run Try.prog w = .ok (.int .i64 X1) w := fun _ => by kernel_rfl
  have ix3 : ∀ w, (Instr.index 122 (.agg #[.int .i64 X1, .int .i64 X3]) (.int .i64 1)).run Try.prog w = .ok (.int .i64 X3) w := fun _ => by kernel_rfl
  have HS0 := Lib.hid (heap_alloc_new w (.cells #[.int .i64 PR, .int .i64 PC, .slice A n cp, .int .i64 m0, .int .i64 m1, .int .i64 m2, .int .i64 m3, .int .i64 m4, .int .i64 m5, .int .i64 m6, .int .i64 m7, .int .i64 m8, .int .i64 R, .int .i64 C, .int .i64 lim, .int .i64 mar] 80))
  go_enter Try.func91, Try.ntmps91
  go_wp2_with fail
  (go_at_call 49; go_call (HMD.out _ (by (repeat (first | (with_reducible assumption) | (with_reducible exact Below.refl _ _) | (with_reducible refine below_drewN' ?_ _) | (with_reducible refine Below.drew ?_) | ((with_reducible refine Below.alloc ?_ ?_ _); rotate_left; focus (first | (simp; done) | (simp; omega) | omega)) | ((with_reducible refine Below.setCell ?_ ?_ _); rotate_left; focus (first | (simp; done) | (simp; omega) | omega)))))) as e1 w1 ⟨rfl, hb1⟩; obtain ⟨hc1, hf1⟩ := bcell hb1; have hB1 : Below w.heap.size w w1 := (below_then (by first | (go_grown; done) | (repeat (first | (with_reducible assumption) | (with_reducible exact Below.refl _ _) | (with_reducible refine below_drewN' ?_ _) | (with_reducible refine Below.drew ?_) | ((with_reducible refine Below.alloc ?_ ?_ _); rotate_left; focus (first | (simp; done) | (simp; omega) | omega)) | ((with_reducible refine Below.setCell ?_ ?_ _); rotate_left; focus (first | (simp; done) | (simp; omega) | omega))))) (by first | omega | (simp; done) | (simp; omega)) hb1); have hz1a : w.heap.size < w1.heap.size := (by have := hb1.size; first | omega | (simp at this; omega)))
  have HS1 := Lib.hid (blk_below HS0.out hb1 (by simp))
  have HO1 : Hid (Own (w1.alloc (.cells #[.int .i64 v0] 2)) (w.heap.size + 1) (.slice (some ⟨w1.heap.size, 0, none⟩) 1 1) [v0]) := Lib.hid (by
    exact ⟨by simp, .inr ⟨w1.heap.size, 1, #[.int .i64 v0], rfl, by omega, heap_alloc_new _ _, by simp, by unfold maxLen; omega, rfl, rfl⟩⟩)
  have hp0 : Below w.heap.size w (w1.alloc (.cells #[.int .i64 v0] 2)) ∧ w.heap.size + 1 < (w1.alloc (.cells #[.int .i64 v0] 2)).heap.size ∧ (w1.alloc (.cells #[.int .i64 v0] 2)).heap[w.heap.size]? = some (.cells #[.int .i64 PR, .int .i64 PC, .slice A n cp, .int .i64 m0, .int .i64 m1, .int .i64 m2, .int .i64 m3, .int .i64 m4, .int .i64 m5, .int .i64 m6, .int .i64 m7, .int .i64 m8, .int .i64 R, .int .i64 C, .int .i64 lim, .int .i64 mar] 80 (0, 0)) := ⟨hB1.alloc (by omega) _, by simp; omega, blk_alloc HS1.out hz1a⟩
  have HP0 := Lib.hid hp0
  clear hc1 hf1 hb1 hB1 hp0
  go_wp2_with fail
  generalize w1.alloc (.cells #[.int .i64 v0] 2) = w2 at *
  go_loopw [7, 24] (fun out q wr => ∃ k : Nat, k ≤ 2 ∧ q = .int .i64 k ∧ Hid ((k = 0 ∧ Own wr (w.heap.size + 1) out [v0]) ∨ (k = 1 ∧ Own wr (w.heap.size + 1) out [v0, t00, t01]) ∨ (k = 2 ∧ Own wr (w.heap.size + 1) out [v0, t00, t01, t10, t11])) ∧ Hid (Below w.heap.size w wr ∧ w.heap.size + 1 < wr.heap.size ∧ wr.heap[w.heap.size]? = some (.cells #[.int .i64 PR, .int .i64 PC, .slice A n cp, .int .i64 m0, .int .i64 m1, .int .i64 m2, .int .i64 m3, .int .i64 m4, .int .i64 m5, .int .i64 m6, .int .i64 m7, .int .i64 m8, .int .i64 R, .int .i64 C, .int .i64 lim, .int .i64 mar] 80 (0, 0))))
    (fun _ q _ => 2 - (intOf q).toNat)
  case atStart => exact ⟨0, by decide, rfl, Lib.hid (.inl ⟨rfl, HO1.out⟩), HP0⟩
  case round =>
    obtain ⟨k, hk, rfl, ho, hpk⟩ := hrel
    have hBr := hpk.out.1
    have hszr := hpk.out.2.1
    have HSr := Lib.hid hpk.out.2.2
    have hwr : w.heap.size < wr.heap.size := by omega
    rcases ho.out with ⟨hk0, h⟩ | ⟨hk0, h⟩ | ⟨hk0, h⟩
    · have hown := Lib.hid h
      have HK0 := Lib.hid hk0
      have hki : (k : Int) < 2 := by omega
      have kx : ∀ w, (Instr.index 122 (.agg #[.int .i64 Y1, .int .i64 Y3]) (.int .i64 k)).run Try.prog w = .ok (.int .i64 Y1) w := by rw [hk0]; exact ix0
      clear h ho hk0
      go_wp2_with fail
      go_loopw [7, 34] (fun out q wr => ∃ l : Nat, l ≤ 2 ∧ q = .int .i64 l ∧ Hid ((l = 0 ∧ Own wr (w.heap.size + 1) out [v0]) ∨ (l = 1 ∧ Own wr (w.heap.size + 1) out [v0, t00]) ∨ (l = 2 ∧ Own wr (w.heap.size + 1) out [v0, t00, t01])) ∧ Hid (Below w.heap.size w wr ∧ w.heap.size + 1 < wr.heap.size ∧ wr.heap[w.heap.size]? = some (.cells #[.int .i64 PR, .int .i64 PC, .slice A n cp, .int .i64 m0, .int .i64 m1, .int .i64 m2, .int .i64 m3, .int .i64 m4, .int .i64 m5, .int .i64 m6, .int .i64 m7, .int .i64 m8, .int .i64 R, .int .i64 C, .int .i64 lim, .int .i64 mar] 80 (0, 0))))
        (fun _ q _ => 2 - (intOf q).toNat)
      case atStart => exact ⟨0, by decide, rfl, Lib.hid (.inl ⟨rfl, hown.out⟩), hpk⟩
      case round =>
        clear hown hpk hBr hszr HSr hwr
        obtain ⟨l, hl, rfl, ho, hpk⟩ := hrel
        have hBr := hpk.out.1
        have hszr := hpk.out.2.1
        have HSr := Lib.hid hpk.out.2.2
        have hwr : w.heap.size < wr.heap.size := by omega
        rcases ho.out with ⟨hl0, h⟩ | ⟨hl0, h⟩ | ⟨hl0, h⟩
        · have hown := Lib.hid h
          have HL0 := Lib.hid hl0
          have hli : (l : Int) < 2 := by omega
          have jx : ∀ w, (Instr.index 122 (.agg #[.int .i64 X1, .int .i64 X3]) (.int .i64 l)).run Try.prog w = .ok (.int .i64 X1) w := by rw [hl0]; exact ix2
          clear h ho hpk hl0
          obtain ⟨a0, a1, a2, a3, a4, a5, a6, a7, a8, a9, a10, a11, a12, a13, a14, a15, -⟩ := blk16 HSr.out
          have HTj := Lib.hid (fun w' hb => HT00.out w' hb)
          go_wp2_with fail
          (go_at_call 85; go_call (HTj.out _ (by (repeat (first | (with_reducible assumption) | (with_reducible exact Below.refl _ _) | (with_reducible refine below_drewN' ?_ _) | (with_reducible refine Below.drew ?_) | ((with_reducible refine Below.alloc ?_ ?_ _); rotate_left; focus (first | (simp; done) | (simp; omega) | omega)) | ((with_reducible refine Below.setCell ?_ ?_ _); rotate_left; focus (first | (simp; done) | (simp; omega) | omega)))))) as e3 w3 ⟨rfl, hb3⟩; obtain ⟨hc3, hf3⟩ := bcell hb3; have hB3 : Below w.heap.size w w3 := (below_then (by first | (go_grown; done) | (repeat (first | (with_reducible assumption) | (with_reducible exact Below.refl _ _) | (with_reducible refine below_drewN' ?_ _) | (with_reducible refine Below.drew ?_) | ((with_reducible refine Below.alloc ?_ ?_ _); rotate_left; focus (first | (simp; done) | (simp; omega) | omega)) | ((with_reducible refine Below.setCell ?_ ?_ _); rotate_left; focus (first | (simp; done) | (simp; omega) | omega))))) (by first | omega | (simp; done) | (simp; omega)) hb3); have hz3a : w.heap.size < w3.heap.size := (by have := hb3.size; first | omega | (simp at this; omega)); have hz3b : w.heap.size + 1 < w3.heap.size := (by have := hb3.size; first | omega | (simp at this; omega)))
          have HO3 := Lib.hid (hown.out.keep hb3)
          have HS3 := Lib.hid (blk_below HSr.out hb3 hwr)
          have hs3 : Hid (w.heap.size + 1 ≤ w3.heap.size) := Lib.hid (by omega)
          clear hc3 hf3 hb3 a0 a1 a2 a3 a4 a5 a6 a7 a8 a9 a10 a11 a12 a13 a14 a15
          have hLL : [v0].length ≤ 7 := by simp
          go_wp2_with (at_builtin; refine wpList_append_own _ rfl _ _ 22 rfl (w.heap.size + 1) 2 i0 (.int .i64 0) 1 8 Try.underlying22 HI.out.2.1 HI.out.2.2.1 HI.out.2.2.2.1 HI.out.2.2.2.2 rfl (by decide) _ _ _ rfl (Own.alloc HO3.out _) ⟨w3.heap.size, 0, none⟩ 1 1 [.int .i64 (t00)] rfl rfl (cell_one_new _ _ _) (one_ok _) (own_max HO3.out (by omega)) (own_bytes HO3.out (by omega)) (own_base hs3.out) ?_; intro va wa howna hgrowa _; have hoa := Lib.hid (Own.snoc howna); have hga := Lib.hid hgrowa; clear howna hgrowa)
          go_roundw
          case rel => exact ⟨l + 1, by have := HL0.out; omega, by go_num, Lib.hid (by have := hoa.out; exact .inr (.inl ⟨by have := HL0.out; omega, this⟩)), Lib.hid ⟨(hB3.alloc (by omega) _).grown hga.out (by simp; omega) (fun q e => by have := (World.ownsRow.lt HO3.out q e).1; omega),
            by have := hga.out.size; simp at this; omega, (hga.out.block _ (by simp; omega) (fun e => by have := (World.ownsRow.lt HO3.out _ e.symm).1; omega)).trans (blk_alloc HS3.out (by omega))⟩⟩
          case measure => have := HL0.out; simp [intOf]; omega
        · have hown := Lib.hid h
          have HL0 := Lib.hid hl0
          have hli : (l : Int) < 2 := by omega
          have jx : ∀ w, (Instr.index 122 (.agg #[.int .i64 X1, .int .i64 X3]) (.int .i64 l)).run Try.prog w = .ok (.int .i64 X3) w := by rw [hl0]; exact ix3
          clear h ho hpk hl0
          obtain ⟨a0, a1, a2, a3, a4, a5, a6, a7, a8, a9, a10, a11, a12, a13, a14, a15, -⟩ := blk16 HSr.out
          have HTj := Lib.hid (fun w' hb => HT01.out w' hb)
          go_wp2_with fail
          (go_at_call 85; go_call (HTj.out _ (by (repeat (first | (with_reducible assumption) | (with_reducible exact Below.refl _ _) | (with_reducible refine below_drewN' ?_ _) | (with_reducible refine Below.drew ?_) | ((with_reducible refine Below.alloc ?_ ?_ _); rotate_left; focus (first | (simp; done) | (simp; omega) | omega)) | ((with_reducible refine Below.setCell ?_ ?_ _); rotate_left; focus (first | (simp; done) | (simp; omega) | omega)))))) as e3 w3 ⟨rfl, hb3⟩; obtain ⟨hc3, hf3⟩ := bcell hb3; have hB3 : Below w.heap.size w w3 := (below_then (by first | (go_grown; done) | (repeat (first | (with_reducible assumption) | (with_reducible exact Below.refl _ _) | (with_reducible refine below_drewN' ?_ _) | (with_reducible refine Below.drew ?_) | ((with_reducible refine Below.alloc ?_ ?_ _); rotate_left; focus (first | (simp; done) | (simp; omega) | omega)) | ((with_reducible refine Below.setCell ?_ ?_ _); rotate_left; focus (first | (simp; done) | (simp; omega) | omega))))) (by first | omega | (simp; done) | (simp; omega)) hb3); have hz3a : w.heap.size < w3.heap.size := (by have := hb3.size; first | omega | (simp at this; omega)); have hz3b : w.heap.size + 1 < w3.heap.size := (by have := hb3.size; first | omega | (simp at this; omega)))
          have HO3 := Lib.hid (hown.out.keep hb3)
          have HS3 := Lib.hid (blk_below HSr.out hb3 hwr)
          have hs3 : Hid (w.heap.size + 1 ≤ w3.heap.size) := Lib.hid (by omega)
          clear hc3 hf3 hb3 a0 a1 a2 a3 a4 a5 a6 a7 a8 a9 a10 a11 a12 a13 a14 a15
          have hLL : [v0, t00].length ≤ 7 := by simp
          go_wp2_with (at_builtin; refine wpList_append_own _ rfl _ _ 22 rfl (w.heap.size + 1) 2 i0 (.int .i64 0) 1 8 Try.underlying22 HI.out.2.1 HI.out.2.2.1 HI.out.2.2.2.1 HI.out.2.2.2.2 rfl (by decide) _ _ _ rfl (Own.alloc HO3.out _) ⟨w3.heap.size, 0, none⟩ 1 1 [.int .i64 (t01)] rfl rfl (cell_one_new _ _ _) (one_ok _) (own_max HO3.out (by omega)) (own_bytes HO3.out (by omega)) (own_base hs3.out) ?_; intro va wa howna hgrowa _; have hoa := Lib.hid (Own.snoc howna); have hga := Lib.hid hgrowa; clear howna hgrowa)
          go_roundw
          case rel => exact ⟨l + 1, by have := HL0.out; omega, by go_num, Lib.hid (by have := hoa.out; exact .inr (.inr ⟨by have := HL0.out; omega, this⟩)), Lib.hid ⟨(hB3.alloc (by omega) _).grown hga.out (by simp; omega) (fun q e => by have := (World.ownsRow.lt HO3.out q e).1; omega),
            by have := hga.out.size; simp at this; omega, (hga.out.block _ (by simp; omega) (fun e => by have := (World.ownsRow.lt HO3.out _ e.symm).1; omega)).trans (blk_alloc HS3.out (by omega))⟩⟩
          case measure => have := HL0.out; simp [intOf]; omega
        · have hli : ¬ ((l : Int) < 2) := by omega
          have hown := Lib.hid h
          clear h ho hl0
          go_wp2_with fail
          go_roundw
          case rel => exact ⟨k + 1, by have := HK0.out; omega, by go_num, Lib.hid (.inr (.inl ⟨by have := HK0.out; omega, hown.out⟩)), hpk⟩
          case measure => have := HK0.out; simp [intOf]; omega
    · have hown := Lib.hid h
      have HK0 := Lib.hid hk0
      have hki : (k : Int) < 2 := by omega
      have kx : ∀ w, (Instr.index 122 (.agg #[.int .i64 Y1, .int .i64 Y3]) (.int .i64 k)).run Try.prog w = .ok (.int .i64 Y3) w := by rw [hk0]; exact ix1
      clear h ho hk0
      go_wp2_with fail
      go_loopw [7, 34] (fun out q wr => ∃ l : Nat, l ≤ 2 ∧ q = .int .i64 l ∧ Hid ((l = 0 ∧ Own wr (w.heap.size + 1) out [v0, t00, t01]) ∨ (l = 1 ∧ Own wr (w.heap.size + 1) out [v0, t00, t01, t10]) ∨ (l = 2 ∧ Own wr (w.heap.size + 1) out [v0, t00, t01, t10, t11])) ∧ Hid (Below w.heap.size w wr ∧ w.heap.size + 1 < wr.heap.size ∧ wr.heap[w.heap.size]? = some (.cells #[.int .i64 PR, .int .i64 PC, .slice A n cp, .int .i64 m0, .int .i64 m1, .int .i64 m2, .int .i64 m3, .int .i64 m4, .int .i64 m5, .int .i64 m6, .int .i64 m7, .int .i64 m8, .int .i64 R, .int .i64 C, .int .i64 lim, .int .i64 mar] 80 (0, 0))))
        (fun _ q _ => 2 - (intOf q).toNat)
      case atStart => exact ⟨0, by decide, rfl, Lib.hid (.inl ⟨rfl, hown.out⟩), hpk⟩
      case round =>
        clear hown hpk hBr hszr HSr hwr
        obtain ⟨l, hl, rfl, ho, hpk⟩ := hrel
        have hBr := hpk.out.1
        have hszr := hpk.out.2.1
        have HSr := Lib.hid hpk.out.2.2
        have hwr : w.heap.size < wr.heap.size := by omega
        rcases ho.out with ⟨hl0, h⟩ | ⟨hl0, h⟩ | ⟨hl0, h⟩
        · have hown := Lib.hid h
          have HL0 := Lib.hid hl0
          have hli : (l : Int) < 2 := by omega
          have jx : ∀ w, (Instr.index 122 (.agg #[.int .i64 X1, .int .i64 X3]) (.int .i64 l)).run Try.prog w = .ok (.int .i64 X1) w := by rw [hl0]; exact ix2
          clear h ho hpk hl0
          obtain ⟨a0, a1, a2, a3, a4, a5, a6, a7, a8, a9, a10, a11, a12, a13, a14, a15, -⟩ := blk16 HSr.out
          have HTj := Lib.hid (fun w' hb => HT10.out w' hb)
          go_wp2_with fail
          (go_at_call 85; go_call (HTj.out _ (by (repeat (first | (with_reducible assumption) | (with_reducible exact Below.refl _ _) | (with_reducible refine below_drewN' ?_ _) | (with_reducible refine Below.drew ?_) | ((with_reducible refine Below.alloc ?_ ?_ _); rotate_left; focus (first | (simp; done) | (simp; omega) | omega)) | ((with_reducible refine Below.setCell ?_ ?_ _); rotate_left; focus (first | (simp; done) | (simp; omega) | omega)))))) as e3 w3 ⟨rfl, hb3⟩; obtain ⟨hc3, hf3⟩ := bcell hb3; have hB3 : Below w.heap.size w w3 := (below_then (by first | (go_grown; done) | (repeat (first | (with_reducible assumption) | (with_reducible exact Below.refl _ _) | (with_reducible refine below_drewN' ?_ _) | (with_reducible refine Below.drew ?_) | ((with_reducible refine Below.alloc ?_ ?_ _); rotate_left; focus (first | (simp; done) | (simp; omega) | omega)) | ((with_reducible refine Below.setCell ?_ ?_ _); rotate_left; focus (first | (simp; done) | (simp; omega) | omega))))) (by first | omega | (simp; done) | (simp; omega)) hb3); have hz3a : w.heap.size < w3.heap.size := (by have := hb3.size; first | omega | (simp at this; omega)); have hz3b : w.heap.size + 1 < w3.heap.size := (by have := hb3.size; first | omega | (simp at this; omega)))
          have HO3 := Lib.hid (hown.out.keep hb3)
          have HS3 := Lib.hid (blk_below HSr.out hb3 hwr)
          have hs3 : Hid (w.heap.size + 1 ≤ w3.heap.size) := Lib.hid (by omega)
          clear hc3 hf3 hb3 a0 a1 a2 a3 a4 a5 a6 a7 a8 a9 a10 a11 a12 a13 a14 a15
          have hLL : [v0, t00, t01].length ≤ 7 := by simp
          go_wp2_with (at_builtin; refine wpList_append_own _ rfl _ _ 22 rfl (w.heap.size + 1) 2 i0 (.int .i64 0) 1 8 Try.underlying22 HI.out.2.1 HI.out.2.2.1 HI.out.2.2.2.1 HI.out.2.2.2.2 rfl (by decide) _ _ _ rfl (Own.alloc HO3.out _) ⟨w3.heap.size, 0, none⟩ 1 1 [.int .i64 (t10)] rfl rfl (cell_one_new _ _ _) (one_ok _) (own_max HO3.out (by omega)) (own_bytes HO3.out (by omega)) (own_base hs3.out) ?_; intro va wa howna hgrowa _; have hoa := Lib.hid (Own.snoc howna); have hga := Lib.hid hgrowa; clear howna hgrowa)
          go_roundw
          case rel => exact ⟨l + 1, by have := HL0.out; omega, by go_num, Lib.hid (by have := hoa.out; exact .inr (.inl ⟨by have := HL0.out; omega, this⟩)), Lib.hid ⟨(hB3.alloc (by omega) _).grown hga.out (by simp; omega) (fun q e => by have := (World.ownsRow.lt HO3.out q e).1; omega),
            by have := hga.out.size; simp at this; omega, (hga.out.block _ (by simp; omega) (fun e => by have := (World.ownsRow.lt HO3.out _ e.symm).1; omega)).trans (blk_alloc HS3.out (by omega))⟩⟩
          case measure => have := HL0.out; simp [intOf]; omega
        · have hown := Lib.hid h
          have HL0 := Lib.hid hl0
          have hli : (l : Int) < 2 := by omega
          have jx : ∀ w, (Instr.index 122 (.agg #[.int .i64 X1, .int .i64 X3]) (.int .i64 l)).run Try.prog w = .ok (.int .i64 X3) w := by rw [hl0]; exact ix3
          clear h ho hpk hl0
          obtain ⟨a0, a1, a2, a3, a4, a5, a6, a7, a8, a9, a10, a11, a12, a13, a14, a15, -⟩ := blk16 HSr.out
          have HTj := Lib.hid (fun w' hb => HT11.out w' hb)
          go_wp2_with fail
          (go_at_call 85; go_call (HTj.out _ (by (repeat (first | (with_reducible assumption) | (with_reducible exact Below.refl _ _) | (with_reducible refine below_drewN' ?_ _) | (with_reducible refine Below.drew ?_) | ((with_reducible refine Below.alloc ?_ ?_ _); rotate_left; focus (first | (simp; done) | (simp; omega) | omega)) | ((with_reducible refine Below.setCell ?_ ?_ _); rotate_left; focus (first | (simp; done) | (simp; omega) | omega)))))) as e3 w3 ⟨rfl, hb3⟩; obtain ⟨hc3, hf3⟩ := bcell hb3; have hB3 : Below w.heap.size w w3 := (below_then (by first | (go_grown; done) | (repeat (first | (with_reducible assumption) | (with_reducible exact Below.refl _ _) | (with_reducible refine below_drewN' ?_ _) | (with_reducible refine Below.drew ?_) | ((with_reducible refine Below.alloc ?_ ?_ _); rotate_left; focus (first | (simp; done) | (simp; omega) | omega)) | ((with_reducible refine Below.setCell ?_ ?_ _); rotate_left; focus (first | (simp; done) | (simp; omega) | omega))))) (by first | omega | (simp; done) | (simp; omega)) hb3); have hz3a : w.heap.size < w3.heap.size := (by have := hb3.size; first | omega | (simp at this; omega)); have hz3b : w.heap.size + 1 < w3.heap.size := (by have := hb3.size; first | omega | (simp at this; omega)))
          have HO3 := Lib.hid (hown.out.keep hb3)
          have HS3 := Lib.hid (blk_below HSr.out hb3 hwr)
          have hs3 : Hid (w.heap.size + 1 ≤ w3.heap.size) := Lib.hid (by omega)
          clear hc3 hf3 hb3 a0 a1 a2 a3 a4 a5 a6 a7 a8 a9 a10 a11 a12 a13 a14 a15
          have hLL : [v0, t00, t01, t10].length ≤ 7 := by simp
          go_wp2_with (at_builtin; refine wpList_append_own _ rfl _ _ 22 rfl (w.heap.size + 1) 2 i0 (.int .i64 0) 1 8 Try.underlying22 HI.out.2.1 HI.out.2.2.1 HI.out.2.2.2.1 HI.out.2.2.2.2 rfl (by decide) _ _ _ rfl (Own.alloc HO3.out _) ⟨w3.heap.size, 0, none⟩ 1 1 [.int .i64 (t11)] rfl rfl (cell_one_new _ _ _) (one_ok _) (own_max HO3.out (by omega)) (own_bytes HO3.out (by omega)) (own_base hs3.out) ?_; intro va wa howna hgrowa _; have hoa := Lib.hid (Own.snoc howna); have hga := Lib.hid hgrowa; clear howna hgrowa)
          go_roundw
          case rel => exact ⟨l + 1, by have := HL0.out; omega, by go_num, Lib.hid (by have := hoa.out; exact .inr (.inr ⟨by have := HL0.out; omega, this⟩)), Lib.hid ⟨(hB3.alloc (by omega) _).grown hga.out (by simp; omega) (fun q e => by have := (World.ownsRow.lt HO3.out q e).1; omega),
            by have := hga.out.size; simp at this; omega, (hga.out.block _ (by simp; omega) (fun e => by have := (World.ownsRow.lt HO3.out _ e.symm).1; omega)).trans (blk_alloc HS3.out (by omega))⟩⟩
          case measure => have := HL0.out; simp [intOf]; omega
        · have hli : ¬ ((l : Int) < 2) := by omega
          have hown := Lib.hid h
          clear h ho hl0
          go_wp2_with fail
          go_roundw
          case rel => exact ⟨k + 1, by have := HK0.out; omega, by go_num, Lib.hid (.inr (.inr ⟨by have := HK0.out; omega, hown.out⟩)), hpk⟩
          case measure => have := HK0.out; simp [intOf]; omega
    · have HF := Lib.hid h
      have hki : ¬ ((k : Int) < 2) := by omega
      obtain ⟨A', c', rfl, -⟩ := h.shape
      clear h ho hk0
      go_wp2_with fail
      go_ret
      exact ⟨_, rfl, HF.out.more (by omega), hBr⟩
end Go.Proofs.Ytflpllmbpfdnjaa
namespace Go.Proofs.Ytflpllmbpfdnjaa
set_option linter.unusedSimpArgs false
open Go.RowKit

theorem fivL_len (mid : Int) (tk : Nat → Nat → Nat → Nat → Int) (R C r c : Nat) : (fivL mid tk R C r c).length = 5 := rfl
theorem fivL_nth (mid : Int) (tk : Nat → Nat → Nat → Nat → Int) (R C r c : Nat) {l : Nat} (h : l < 4) : nth (fivL mid tk R C r c) (l + 1) = tk (4 * c + 1 + 2 * (l % 2)) (4 * C) (4 * r + 1 + 2 * (l / 2)) (4 * R) := by
  rcases (show l = 0 ∨ l = 1 ∨ l = 2 ∨ l = 3 by omega) with rfl | rfl | rfl | rfl <;> rfl
set_option maxRecDepth 20000 in
set_option maxHeartbeats 8000000 in
theorem l26Five_any (PR PC : Nat) (A : Option Addr) (n cp : Nat) (xs : List Int) (m0 m1 m2 m3 m4 m5 m6 m7 m8 : Int) (R C : Nat) (lim mar : Int) (w : World) (B : Nat) (hr : RI w B A n xs) (hB : B ≤ w.heap.size) (hn : n = PR * PC) (hn2 : PR * PC ≤ 40000) (hPR : PR ≤ 400) (hPC : PC ≤ 400) (hxs : ∀ k, k < n → 0 ≤ nth xs k ∧ nth xs k ≤ 255)
    (hmap : isMapB [m0, m1, m2, m3, m4, m5, m6, m7, m8] = true) (hlim : 0 ≤ lim ∧ lim ≤ 256) (hmar : 0 ≤ mar ∧ mar ≤ 256) (hR : R ≤ 3500) (hC : C ≤ 3500) (hRC : R * C ≤ 3500) :
    Calls Try.prog 58 #[.agg #[.int .i64 PR, .int .i64 PC, .slice A n cp], .agg #[.int .i64 m0, .int .i64 m1, .int .i64 m2, .int .i64 m3, .int .i64 m4, .int .i64 m5, .int .i64 m6, .int .i64 m7, .int .i64 m8], .agg #[.int .i64 R, .int .i64 C, .int .i64 lim, .int .i64 mar]] w fun e w' => ∃ v, e = .returned (.agg #[.int .i64 R, .int .i64 C, v]) ∧ Own w' w.heap.size v (grdL R C (fun r c => voteV (fivL (samV PR PC xs m0 m1 m2 m3 m4 m5 m6 m7 m8 R C lim mar r c) (tkF PR PC xs m0 m1 m2 m3 m4 m5 m6 m7 m8 lim mar) R C r c))) ∧ Below w.heap.size w w' := by
  obtain ⟨i0, hi⟩ := info_own' info_i64s
  have HI := Lib.hid (And.intro i0.bytes.le_refl hi)
  clear hi
  obtain ⟨SL, hSLe⟩ : ∃ SL : Nat → Nat → List Int, SL = fun r c => fivL (samV PR PC xs m0 m1 m2 m3 m4 m5 m6 m7 m8 R C lim mar r c) (tkF PR PC xs m0 m1 m2 m3 m4 m5 m6 m7 m8 lim mar) R C r c := ⟨_, rfl⟩
  obtain ⟨f, hf⟩ : ∃ f : Nat → Nat → Int, f = fun r c => voteV (SL r c) := ⟨_, rfl⟩
  have HSL : Hid (∀ r c : Nat, (SL r c).length = 5) := Lib.hid (fun r c => by rw [hSLe]; rfl)
  have HFV : Hid (∀ r c : Nat, f r c = voteV (SL r c)) := Lib.hid (fun r c => by rw [hf])
  have HM : Hid (∀ r c : Nat, r < R → c < C → ∀ w', Below w.heap.size w w' → Calls Try.prog 45 #[.agg #[.int .i64 PR, .int .i64 PC, .slice A n cp], .agg #[.int .i64 m0, .int .i64 m1, .int .i64 m2, .int .i64 m3, .int .i64 m4, .int .i64 m5, .int .i64 m6, .int .i64 m7, .int .i64 m8], .agg #[.int .i64 R, .int .i64 C, .int .i64 lim, .int .i64 mar], .int .i64 r, .int .i64 c] w' fun e w'' => e = .returned (.int .i64 (nth (SL r c) 0)) ∧ Below w'.heap.size w' w'') := Lib.hid (fun r c h1 h2 w' hb => by
    rw [hSLe]
    exact l26Middle_any PR PC A n cp xs m0 m1 m2 m3 m4 m5 m6 m7 m8 R C lim mar r c w' w.heap.size ((hr.more hB).below hb) hb.size hn hn2 hPR hPC hxs hmap hlim hmar hR hC hRC h1 h2)
  have HF : Hid (∀ r c l : Nat, r < R → c < C → l < 4 → ∀ w', Below w.heap.size w w' → Calls Try.prog 82 #[.agg #[.int .i64 PR, .int .i64 PC, .slice A n cp], .agg #[.int .i64 m0, .int .i64 m1, .int .i64 m2, .int .i64 m3, .int .i64 m4, .int .i64 m5, .int .i64 m6, .int .i64 m7, .int .i64 m8], .agg #[.int .i64 R, .int .i64 C, .int .i64 lim, .int .i64 mar], .int .i64 ((4 * c + 1 + 2 * (l % 2) : Nat) : Int), .int .i64 ((4 * C : Nat) : Int), .int .i64 ((4 * r + 1 + 2 * (l / 2) : Nat) : Int), .int .i64 ((4 * R : Nat) : Int)] w' fun e w'' => e = .returned (.int .i64 (nth (SL r c) (l + 1))) ∧ Below w'.heap.size w' w'') := Lib.hid (fun r c l h1 h2 h3 w' hb => by
    obtain ⟨b1, b2, b3⟩ := fiv_bd (a := 1 + 2 * (l % 2)) (b := 1 + 2 * (l / 2)) hRC h1 h2 (by omega) (by omega)
    rw [← Nat.add_assoc] at b1 b2
    have := l26Sample_any PR PC A n cp xs m0 m1 m2 m3 m4 m5 m6 m7 m8 R C lim mar (4 * c + 1 + 2 * (l % 2)) (4 * C) (4 * r + 1 + 2 * (l / 2)) (4 * R) w' w.heap.size ((hr.more hB).below hb) hb.size hn hn2 hPR hPC hxs hmap hlim hmar (by omega) (by omega) (by omega) (by omega) (by omega) (by omega) (by omega)
    rw [hSLe]
    simp only [fivL_nth _ _ _ _ _ _ h3]
    exact this)
  rw [show (fun r c => voteV (fivL (samV PR PC xs m0 m1 m2 m3 m4 m5 m6 m7 m8 R C lim mar r c) (tkF PR PC xs m0 m1 m2 m3 m4 m5 m6 m7 m8 lim mar) R C r c)) = f by rw [hf, hSLe]]
  obtain ⟨M, hM⟩ : ∃ X : Nat, 4 * C = X := ⟨_, rfl⟩
  obtain ⟨KK, hKK⟩ : ∃ X : Nat, 4 * R = X := ⟨_, rfl⟩
  rw [hM, hKK] at HF
  have e2 : 4 * (C : Int) = (M : Int) := by omega
  have e4 : 4 * (R : Int) = (KK : Int) := by omega
  have hMb : M ≤ 14000 := by omega
  have hKb : KK ≤ 14000 := by omega
  clear hf hSLe hr hxs hmap hn hM hKK
  obtain ⟨N, hN⟩ : ∃ N, N = R * C := ⟨_, rfl⟩
  have HN := Lib.hid hN
  have hNb : N ≤ 3500 := by omega
  have hGl : Hid ((grdL R C f).length = N) := Lib.hid ((grdL_len R C f).trans hN.symm)
  clear hN hRC
  go_enter Try.func58, Try.ntmps58
  go_wp2_with fail
  have HW : Hid (Below w.heap.size w ((((w.alloc (.cells #[.int .i64 PR, .int .i64 PC, .slice A n cp] 32)).alloc (.cells #[.int .i64 m0, .int .i64 m1, .int .i64 m2, .int .i64 m3, .int .i64 m4, .int .i64 m5, .int .i64 m6, .int .i64 m7, .int .i64 m8] 34)).alloc (.cells #[.int .i64 R, .int .i64 C, .int .i64 lim, .int .i64 mar] 36)).alloc (.cells #[.int .i64 0, .int .i64 0, .slice none 0 0] 41))) := Lib.hid (by go_grown)
  have HX0 : Hid (BxG w.heap.size PR PC A n cp m0 m1 m2 m3 m4 m5 m6 m7 m8 R C lim mar 32 34 36 ((((w.alloc (.cells #[.int .i64 PR, .int .i64 PC, .slice A n cp] 32)).alloc (.cells #[.int .i64 m0, .int .i64 m1, .int .i64 m2, .int .i64 m3, .int .i64 m4, .int .i64 m5, .int .i64 m6, .int .i64 m7, .int .i64 m8] 34)).alloc (.cells #[.int .i64 R, .int .i64 C, .int .i64 lim, .int .i64 mar] 36)).alloc (.cells #[.int .i64 0, .int .i64 0, .slice none 0 0] 41))) := Lib.hid ⟨blk_alloc (blk_alloc (blk_alloc (heap_alloc_new _ _) (by simp)) (by simp; try omega)) (by simp; try omega), blk_alloc (blk_alloc (heap_alloc_at (by simp)) (by simp; try omega)) (by simp; try omega), blk_alloc (heap_alloc_at (by simp)) (by simp; try omega)⟩
  have HR0 : Hid (((((w.alloc (.cells #[.int .i64 PR, .int .i64 PC, .slice A n cp] 32)).alloc (.cells #[.int .i64 m0, .int .i64 m1, .int .i64 m2, .int .i64 m3, .int .i64 m4, .int .i64 m5, .int .i64 m6, .int .i64 m7, .int .i64 m8] 34)).alloc (.cells #[.int .i64 R, .int .i64 C, .int .i64 lim, .int .i64 mar] 36)).alloc (.cells #[.int .i64 0, .int .i64 0, .slice none 0 0] 41)).heap[w.heap.size + 1 + 1 + 1]? = some (.cells #[.int .i64 0, .int .i64 0, .slice none 0 0] 41 (0, 0))) := Lib.hid (heap_alloc_at (by simp))
  have hsz : ((((w.alloc (.cells #[.int .i64 PR, .int .i64 PC, .slice A n cp] 32)).alloc (.cells #[.int .i64 m0, .int .i64 m1, .int .i64 m2, .int .i64 m3, .int .i64 m4, .int .i64 m5, .int .i64 m6, .int .i64 m7, .int .i64 m8] 34)).alloc (.cells #[.int .i64 R, .int .i64 C, .int .i64 lim, .int .i64 mar] 36)).alloc (.cells #[.int .i64 0, .int .i64 0, .slice none 0 0] 41)).heap.size = w.heap.size + 1 + 1 + 1 + 1 := by simp
  have hHE : Own (((((w.alloc (.cells #[.int .i64 PR, .int .i64 PC, .slice A n cp] 32)).alloc (.cells #[.int .i64 m0, .int .i64 m1, .int .i64 m2, .int .i64 m3, .int .i64 m4, .int .i64 m5, .int .i64 m6, .int .i64 m7, .int .i64 m8] 34)).alloc (.cells #[.int .i64 R, .int .i64 C, .int .i64 lim, .int .i64 mar] 36)).alloc (.cells #[.int .i64 0, .int .i64 0, .slice none 0 0] 41)).alloc (.cells #[] 2)) ((((w.alloc (.cells #[.int .i64 PR, .int .i64 PC, .slice A n cp] 32)).alloc (.cells #[.int .i64 m0, .int .i64 m1, .int .i64 m2, .int .i64 m3, .int .i64 m4, .int .i64 m5, .int .i64 m6, .int .i64 m7, .int .i64 m8] 34)).alloc (.cells #[.int .i64 R, .int .i64 C, .int .i64 lim, .int .i64 mar] 36)).alloc (.cells #[.int .i64 0, .int .i64 0, .slice none 0 0] 41)).heap.size (.slice (some ⟨((((w.alloc (.cells #[.int .i64 PR, .int .i64 PC, .slice A n cp] 32)).alloc (.cells #[.int .i64 m0, .int .i64 m1, .int .i64 m2, .int .i64 m3, .int .i64 m4, .int .i64 m5, .int .i64 m6, .int .i64 m7, .int .i64 m8] 34)).alloc (.cells #[.int .i64 R, .int .i64 C, .int .i64 lim, .int .i64 mar] 36)).alloc (.cells #[.int .i64 0, .int .i64 0, .slice none 0 0] 41)).heap.size, 0, none⟩) 0 0) [] := by
    have := World.ownsRow_made (e := 2) (size := 1) (base := ((((w.alloc (.cells #[.int .i64 PR, .int .i64 PC, .slice A n cp] 32)).alloc (.cells #[.int .i64 m0, .int .i64 m1, .int .i64 m2, .int .i64 m3, .int .i64 m4, .int .i64 m5, .int .i64 m6, .int .i64 m7, .int .i64 m8] 34)).alloc (.cells #[.int .i64 R, .int .i64 C, .int .i64 lim, .int .i64 mar] 36)).alloc (.cells #[.int .i64 0, .int .i64 0, .slice none 0 0] 41)).heap.size) ((((w.alloc (.cells #[.int .i64 PR, .int .i64 PC, .slice A n cp] 32)).alloc (.cells #[.int .i64 m0, .int .i64 m1, .int .i64 m2, .int .i64 m3, .int .i64 m4, .int .i64 m5, .int .i64 m6, .int .i64 m7, .int .i64 m8] 34)).alloc (.cells #[.int .i64 R, .int .i64 C, .int .i64 lim, .int .i64 mar] 36)).alloc (.cells #[.int .i64 0, .int .i64 0, .slice none 0 0] 41)) #[] 0 (by simp) (by unfold maxLen; omega) rfl
    unfold Own
    simpa using this
  rw [hsz] at hHE
  have HE := Lib.hid hHE
  clear hHE
  have hW4 := HW.out
  obtain ⟨W4, hW4e⟩ : ∃ W, W = ((((w.alloc (.cells #[.int .i64 PR, .int .i64 PC, .slice A n cp] 32)).alloc (.cells #[.int .i64 m0, .int .i64 m1, .int .i64 m2, .int .i64 m3, .int .i64 m4, .int .i64 m5, .int .i64 m6, .int .i64 m7, .int .i64 m8] 34)).alloc (.cells #[.int .i64 R, .int .i64 C, .int .i64 lim, .int .i64 mar] 36)).alloc (.cells #[.int .i64 0, .int .i64 0, .slice none 0 0] 41)) := ⟨_, rfl⟩
  rw [← hW4e] at HW HX0 HR0 hsz HE hW4 ⊢
  clear hW4e hW4
  have hszW := hsz
  go_loopw [7, 8] (fun out row wr => ∃ k : Nat, k ≤ R ∧ row = .int .i64 k ∧ Hid (Own wr (w.heap.size + 1 + 1 + 1 + 1) out ((grdL R C f).take (k * C))) ∧ Hid (Below (w.heap.size + 1 + 1 + 1 + 1) W4 wr))
    (fun _ row _ => R - (intOf row).toNat)
  case atStart => exact ⟨0, Nat.zero_le _, rfl, Lib.hid (by simpa using HE.out), Lib.hid (by have := (Below.refl (w.heap.size + 1 + 1 + 1 + 1) W4).alloc (by omega) (.cells #[] 2); simpa using this)⟩
  case round =>
    obtain ⟨k, hk, rfl, hown0, hbel0⟩ := hrel
    obtain ⟨ya, yb, yc, yd, ye, yf, yg, yh, yi, yj, yk, yl, ym, yn, yo, yp⟩ := (HX0.out.below hbel0.out (by omega)).cells
    by_cases hlt : k < R
    · go_wp2_with fail
      go_loopw [7, 9] (fun out col wr => ∃ j : Nat, j ≤ C ∧ col = .int .i64 j ∧ Hid (Own wr (w.heap.size + 1 + 1 + 1 + 1) out ((grdL R C f).take (k * C + j))) ∧ Hid (Below (w.heap.size + 1 + 1 + 1 + 1) W4 wr))
        (fun _ col _ => C - (intOf col).toNat)
      case atStart => exact ⟨0, Nat.zero_le _, rfl, hown0, hbel0⟩
      case round =>
        clear ya yb yc yd ye yf yg yh yi yj yk yl ym yn yo yp
        rename World => wo
        obtain ⟨j, hj, rfl, hown, hbel⟩ := hrel
        obtain ⟨ya, yb, yc, yd, ye, yf, yg, yh, yi, yj, yk, yl, ym, yn, yo, yp⟩ := (HX0.out.below hbel.out (by omega)).cells
        by_cases hlt2 : j < C
        · have hszo := hbel.out.size
          have hBo : Below w.heap.size w wo := HW.out.trans (hbel.out.mono (by omega))
          have HBo := Lib.hid hBo
          have hst := grdL_nth (f := f) hlt hlt2
          have hlen : k * C + j < (grdL R C f).length := by rw [grdL_len]; exact cell_lt2 hlt hlt2
          have htk := take_nth hlen
          rw [hst, HFV.out k j] at htk
          have HT0 := Lib.hid htk
          have HL : Hid (((grdL R C f).take (k * C + j)).length ≤ 3500) := Lib.hid (by
            rw [List.length_take, hGl.out]; omega)
          have HFK := Lib.hid (fun l w' hl hb => HF.out k j l hlt hlt2 hl w' hb)
          have HMj := Lib.hid (fun w' hb => HM.out k j hlt hlt2 w' hb)
          have HXo := Lib.hid (HX0.out.below hbel.out (by omega))
          have HSl := Lib.hid (HSL.out k j)
          clear hst hlen htk
          generalize SL k j = G at HFK HT0 HSl HMj
          obtain ⟨V0, hV0⟩ : ∃ V, nth G 0 = V := ⟨_, rfl⟩
          rw [hV0] at HMj
          have HV0 : Hid (G.take 1 = [V0]) := Lib.hid (by rw [take_nth (by rw [HSl.out]; decide), hV0]; rfl)
          have hwz4 : w.heap.size + 1 + 1 < wo.heap.size := by omega
          clear hV0
          go_wp2_with fail
          (go_at_call 45; go_call (HMj.out _ (by (repeat (first | (with_reducible assumption) | (with_reducible exact Below.refl _ _) | (with_reducible refine below_drewN' ?_ _) | (with_reducible refine Below.drew ?_) | ((with_reducible refine Below.alloc ?_ ?_ _); rotate_left; focus (first | (simp; done) | (simp; omega) | omega)) | ((with_reducible refine Below.setCell ?_ ?_ _); rotate_left; focus (first | (simp; done) | (simp; omega) | omega)))))) as e9 w9 ⟨rfl, hb9⟩; obtain ⟨hc9, hf9⟩ := bcell hb9; have hB9 : Below w.heap.size w w9 := (below_then (by first | (go_grown; done) | (repeat (first | (with_reducible assumption) | (with_reducible exact Below.refl _ _) | (with_reducible refine below_drewN' ?_ _) | (with_reducible refine Below.drew ?_) | ((with_reducible refine Below.alloc ?_ ?_ _); rotate_left; focus (first | (simp; done) | (simp; omega) | omega)) | ((with_reducible refine Below.setCell ?_ ?_ _); rotate_left; focus (first | (simp; done) | (simp; omega) | omega))))) (by first | omega | (simp; done) | (simp; omega)) hb9); have hz9a : w.heap.size < w9.heap.size := (by have := hb9.size; first | omega | (simp at this; omega)))
          have HE1 : Hid (Own (w9.alloc (.cells #[.int .i64 V0] 2)) wo.heap.size (.slice (some ⟨w9.heap.size, 0, none⟩) 1 1) [V0]) := Lib.hid (by
            exact ⟨by simp, .inr ⟨w9.heap.size, 1, #[.int .i64 V0], rfl, hb9.size, heap_alloc_new _ _, by simp, by unfold maxLen; omega, rfl, rfl⟩⟩)
          have hwz9 : Below wo.heap.size wo (w9.alloc (.cells #[.int .i64 V0] 2)) := hb9.alloc hb9.size _
          have HW9 := Lib.hid hwz9
          clear hc9 hf9 hb9 hB9 hwz9 hBo ya yb yc yd ye yf yg yh yi yj yk yl ym yn yo yp
          go_wp2_with fail
          generalize w9.alloc (.cells #[.int .i64 V0] 2) = wl at *
          go_loopw [10, 11] (fun lv q wr => ∃ l : Nat, l ≤ 4 ∧ q = .int .i64 l ∧ Hid (Own wr wo.heap.size lv (G.take (l + 1))) ∧ Hid (Below wo.heap.size wo wr))
            (fun _ q _ => 4 - (intOf q).toNat)
          case atStart => exact ⟨0, Nat.zero_le _, rfl, Lib.hid (by rw [HV0.out]; exact HE1.out), HW9⟩
          case round =>
            obtain ⟨l, hl, rfl, hownl, hbell⟩ := hrel
            have hszr := hbell.out.size
            by_cases hlt3 : l < 4
            · obtain ⟨ya, yb, yc, yd, ye, yf, yg, yh, yi, yj, yk, yl, ym, yn, yo, yp⟩ := (HXo.out.below hbell.out (by omega)).cells
              have hBw : Below w.heap.size w wr := HBo.out.trans (hbell.out.mono (by omega))
              have htl := take_nth (xs := G) (k := l + 1) (by rw [HSl.out]; omega)
              have HTL := Lib.hid htl
              have hll : (G.take (l + 1)).length ≤ 7 := by rw [List.length_take]; omega
              have HLL := Lib.hid hll
              have HFl := Lib.hid (fun w' hb => HFK.out l w' hlt3 hb)
              clear htl hll
              generalize nth G (l + 1) = V at *
              have q1 : IntKind.i64.wrap ((l : Int) / 2) = ((l / 2 : Nat) : Int) := by rw [IntKind.wrap_i64]; omega
              have q2 : (l : Int) % 2 = ((l % 2 : Nat) : Int) := by omega
              have q3 : (l : Int).tdiv 2 = ((l / 2 : Nat) : Int) := by rw [Int.tdiv_eq_ediv_of_nonneg (by omega)]; omega
              have q4 : (l : Int).tmod 2 = ((l % 2 : Nat) : Int) := by rw [Int.tmod_eq_emod_of_nonneg (by omega)]; omega
              have q5 : l / 2 ≤ 1 ∧ l % 2 ≤ 1 := by omega
              generalize l / 2 = Q at *
              generalize l % 2 = P at *
              obtain ⟨X, hX⟩ : ∃ X : Nat, 4 * j + 1 + 2 * P = X := ⟨_, rfl⟩
              obtain ⟨Y, hY⟩ : ∃ Y : Nat, 4 * k + 1 + 2 * Q = Y := ⟨_, rfl⟩
              rw [hX, hY] at HFl
              have e6 : 4 * (j : Int) + 1 + 2 * (P : Int) = (X : Int) := by omega
              have e7 : 4 * (k : Int) + 1 + 2 * (Q : Int) = (Y : Int) := by omega
              have hXb : X ≤ 14003 := by omega
              have hYb : Y ≤ 14003 := by omega
              have hli : (l : Int) < 4 := by omega
              clear hX hY
              go_wp2_with fail
              (go_at_call 82; go_call (HFl.out _ (by (repeat (first | (with_reducible assumption) | (with_reducible exact Below.refl _ _) | (with_reducible refine below_drewN' ?_ _) | (with_reducible refine Below.drew ?_) | ((with_reducible refine Below.alloc ?_ ?_ _); rotate_left; focus (first | (simp; done) | (simp; omega) | omega)) | ((with_reducible refine Below.setCell ?_ ?_ _); rotate_left; focus (first | (simp; done) | (simp; omega) | omega)))))) as e1 w1 ⟨rfl, hb1⟩; obtain ⟨hc1, hf1⟩ := bcell hb1; have hB1 : Below w.heap.size w w1 := (below_then (by first | (go_grown; done) | (repeat (first | (with_reducible assumption) | (with_reducible exact Below.refl _ _) | (with_reducible refine below_drewN' ?_ _) | (with_reducible refine Below.drew ?_) | ((with_reducible refine Below.alloc ?_ ?_ _); rotate_left; focus (first | (simp; done) | (simp; omega) | omega)) | ((with_reducible refine Below.setCell ?_ ?_ _); rotate_left; focus (first | (simp; done) | (simp; omega) | omega))))) (by first | omega | (simp; done) | (simp; omega)) hb1); have hz1a : w.heap.size < w1.heap.size := (by have := hb1.size; first | omega | (simp at this; omega)))
              have ho1 := Lib.hid (hownl.out.keep hb1)
              have hs1 : Hid (wo.heap.size ≤ w1.heap.size) := Lib.hid (by have := hb1.size; omega)
              have hBe : Hid (Below wo.heap.size wo w1) := Lib.hid (hbell.out.trans (hb1.mono (by omega)))
              clear hc1 hf1 hb1 hB1 hBw ya yb yc yd ye yf yg yh yi yj yk yl ym yn yo yp
              have hLL := HLL.out
              go_wp2_with (at_builtin; refine wpList_append_own _ rfl _ _ 22 rfl (wo.heap.size) 2 i0 (.int .i64 0) 1 8 Try.underlying22 HI.out.2.1 HI.out.2.2.1 HI.out.2.2.2.1 HI.out.2.2.2.2 rfl (by decide) _ _ _ rfl (Own.alloc ho1.out _) ⟨w1.heap.size, 0, none⟩ 1 1 [.int .i64 (V)] rfl rfl (cell_one_new _ _ _) (one_ok _) (own_max ho1.out (by omega)) (own_bytes ho1.out (by omega)) (own_base hs1.out) ?_; intro va wa howna hgrowa _; have hoa := Lib.hid (Own.snoc howna); have hga := Lib.hid hgrowa; clear howna hgrowa)
              go_roundw
              case rel => exact ⟨l + 1, by omega, by go_num, Lib.hid (by have := hoa.out; rw [← HTL.out] at this; exact this), Lib.hid (Own.below_grown ho1.out hBe.out hs1.out hga.out)⟩
              case measure => simp [intOf]; omega
            · have hli : ¬ ((l : Int) < 4) := by omega
              have hlL : l = 4 := by omega
              have hGf := hownl.out
              rw [List.take_of_length_le (by rw [HSl.out]; omega)] at hGf
              obtain ⟨A9, c9, rfl, hr9⟩ := hGf.shape
              have HR9 := Lib.hid hr9
              have hG9 : G.length ≤ 1000 := by rw [HSl.out]; omega
              have ho1 := Lib.hid (hown.out.keep hbell.out)
              have hs1 : Hid (w.heap.size + 1 + 1 + 1 + 1 ≤ wr.heap.size) := Lib.hid (by omega)
              have hBe : Hid (Below (w.heap.size + 1 + 1 + 1 + 1) W4 wr) := Lib.hid (hbel.out.trans (hbell.out.mono (by omega)))
              have hLL := HL.out
              clear hGf hr9 hlL
              go_wp2_with first | (go_at_call 87; with_reducible refine (l26Vote_any A9 G.length c9 G _ _ HR9.out hG9).mono ?_; rintro e9 w9' ⟨rfl, rfl⟩) | (at_builtin; refine wpList_append_own _ rfl _ _ 22 rfl (w.heap.size + 1 + 1 + 1 + 1) 2 i0 (.int .i64 0) 1 8 Try.underlying22 HI.out.2.1 HI.out.2.2.1 HI.out.2.2.2.1 HI.out.2.2.2.2 rfl (by decide) _ _ _ rfl (Own.alloc ho1.out _) ⟨wr.heap.size, 0, none⟩ 1 1 [.int .i64 ((voteV G))] rfl rfl (cell_one_new _ _ _) (one_ok _) (own_max ho1.out (by omega)) (own_bytes ho1.out (by omega)) (own_base hs1.out) ?_; intro va wa howna hgrowa _; have hoa := Lib.hid (Own.snoc howna); have hga := Lib.hid hgrowa; clear howna hgrowa)
              go_roundw
              case rel => exact ⟨j + 1, by omega, by go_num, Lib.hid (by have := hoa.out; rw [← HT0.out] at this; exact this), Lib.hid (Own.below_grown ho1.out hBe.out hs1.out hga.out)⟩
              case measure => simp [intOf]; omega
        · have hjn : j = C := by omega
          subst hjn
          go_wp2_with fail
          go_roundw
          case rel => exact ⟨k + 1, by omega, by go_num, Lib.hid (by have := hown.out; rwa [show k * j + j = (k + 1) * j from by rw [Nat.add_mul, Nat.one_mul]] at this), hbel⟩
          case measure => simp [intOf]; omega
    · have hkn : k = R := by omega
      subst hkn
      have hfin := hown0.out
      rw [List.take_of_length_le (by rw [grdL_len]; exact Nat.le_refl _)] at hfin
      obtain ⟨A', c', hv, hr'⟩ := hfin.shape
      subst hv
      have HFN := Lib.hid hfin
      clear hfin hr'
      have hR1 : wr.heap[w.heap.size + 1 + 1 + 1]? = some (.cells #[.int .i64 0, .int .i64 0, .slice none 0 0] 41 (0, 0)) := blk_below HR0.out hbel0.out (by omega)
      obtain ⟨z0, z1, z2, zf⟩ := blk3 hR1
      obtain ⟨s0, s1, s2⟩ := res3 hR1 (.int .i64 (k : Int)) (.int .i64 (C : Int)) (.slice A' (grdL k C f).length c')
      clear hR1
      have HBW : Hid (Below w.heap.size w wr) := Lib.hid (HW.out.trans (hbel0.out.mono (by omega)))
      go_wp2_with fail
      (try simp only [Exit.inBlock, Exit.then]); refine bodyPost_ret (by simp [results, Try.results58, go_sem, s0, s1, s2]; try rfl) rfl ?_
      exact ⟨_, rfl, ((((HFN.out.setLt (Nat.lt_succ_self _) _).setLt (Nat.lt_succ_self _) _).setLt (Nat.lt_succ_self _) _)).more (by omega), ((HBW.out.setCell (show w.heap.size ≤ w.heap.size + 1 + 1 + 1 by omega) _).setCell (show w.heap.size ≤ w.heap.size + 1 + 1 + 1 by omega) _).setCell (show w.heap.size ≤ w.heap.size + 1 + 1 + 1 by omega) _⟩
end Go.Proofs.Ytflpllmbpfdnjaa
namespace Go.Proofs.Ytflpllmbpfdnjaa
set_option linter.unusedSimpArgs false
open Go.RowKit

def SampleFive_K (pr pc : Int) (xs : List Int) (m0 m1 m2 m3 m4 m5 m6 m7 m8 : Int) (R C lim mar : Int) : Int := if smpB pr pc xs m0 m1 m2 m3 m4 m5 m6 m7 m8 R C lim mar then 0 else 1
def SampleFive_L (pr pc : Int) (xs : List Int) (m0 m1 m2 m3 m4 m5 m6 m7 m8 : Int) (R C lim mar : Int) : List Int := if smpB pr pc xs m0 m1 m2 m3 m4 m5 m6 m7 m8 R C lim mar then grdL R.toNat C.toNat (fun i j => voteV (fivL (samV pr.toNat pc.toNat xs m0 m1 m2 m3 m4 m5 m6 m7 m8 R.toNat C.toNat lim mar i j) (tkF pr.toNat pc.toNat xs m0 m1 m2 m3 m4 m5 m6 m7 m8 lim mar) R.toNat C.toNat i j)) else []
theorem SampleFive_le (pr pc : Int) (xs : List Int) (m0 m1 m2 m3 m4 m5 m6 m7 m8 : Int) (R C lim mar : Int) : (SampleFive_L pr pc xs m0 m1 m2 m3 m4 m5 m6 m7 m8 R C lim mar).length ≤ 3500 := by
  unfold SampleFive_L
  split
  · rename_i h
    obtain ⟨R', C', rfl, rfl, _, _, _, _, rc, _⟩ := sampling_nat (smp_true h).2.2
    rw [grdL_len]; exact rc
  · simp
theorem five_any (w : World) : Calls Try.prog 59 #[] w fun e w' => e = .returned (.agg #[.func (.func 91) #[] #[]]) ∧ Below w.heap.size w w' := by
  have hrs := fun a m w2 => run_store Try.prog w2 a (.func (.func 91) #[] #[]) m rfl
  go_enter Try.func59, Try.ntmps59
  go_wp2_with fail
  go_returns
  exact ⟨rfl, by (repeat (first | (with_reducible assumption) | (with_reducible exact Below.refl _ _) | (with_reducible refine below_drewN' ?_ _) | (with_reducible refine Below.drew ?_) | ((with_reducible refine Below.alloc ?_ ?_ _); rotate_left; focus (first | (simp; done) | (simp; omega) | omega)) | ((with_reducible refine Below.setCell ?_ ?_ _); rotate_left; focus (first | (simp; done) | (simp; omega) | omega))))⟩
set_option maxRecDepth 20000 in
set_option maxHeartbeats 8000000 in
theorem SampleFive_any (pr pc : Int) (A : Option Addr) (n cp : Nat) (xs : List Int) (m0 m1 m2 m3 m4 m5 m6 m7 m8 : Int) (R C lim mar : Int) (w : World) (B : Nat) (hr : RI w B A n xs) (hB : B ≤ w.heap.size) (hn : n ≤ 1000000000000000) :
    Calls Try.prog 26 #[.agg #[.int .i64 pr, .int .i64 pc, .slice A n cp], .agg #[.int .i64 m0, .int .i64 m1, .int .i64 m2, .int .i64 m3, .int .i64 m4, .int .i64 m5, .int .i64 m6, .int .i64 m7, .int .i64 m8], .agg #[.int .i64 R, .int .i64 C, .int .i64 lim, .int .i64 mar]] w fun e w' => ∃ v, e = .returned (.tuple #[.agg #[.int .i64 (gI (SampleFive_K pr pc xs m0 m1 m2 m3 m4 m5 m6 m7 m8 R C lim mar) R), .int .i64 (gI (SampleFive_K pr pc xs m0 m1 m2 m3 m4 m5 m6 m7 m8 R C lim mar) C), v], .int .i64 (SampleFive_K pr pc xs m0 m1 m2 m3 m4 m5 m6 m7 m8 R C lim mar)]) ∧ Own w' w.heap.size v (SampleFive_L pr pc xs m0 m1 m2 m3 m4 m5 m6 m7 m8 R C lim mar) ∧ Below w.heap.size w w' := by
  unfold SampleFive_K SampleFive_L
  cases h : smpB pr pc xs m0 m1 m2 m3 m4 m5 m6 m7 m8 R C lim mar
  · rw [if_neg (by simp), if_neg (by simp), gI_1, gI_1]
    have HS := Lib.hid (fun (w' : World) (hb : Below w.heap.size w w') => samplerOf_no pr pc A n cp xs m0 m1 m2 m3 m4 m5 m6 m7 m8 R C lim mar w' w.heap.size ((hr.more hB).below hb) hb.size hn h)
    clear hr h
    have HZ0 : Hid (((((w.alloc (.cells #[.int .i64 pr, .int .i64 pc, .slice A n cp] 32)).alloc (.cells #[.int .i64 m0, .int .i64 m1, .int .i64 m2, .int .i64 m3, .int .i64 m4, .int .i64 m5, .int .i64 m6, .int .i64 m7, .int .i64 m8] 34)).alloc (.cells #[.int .i64 R, .int .i64 C, .int .i64 lim, .int .i64 mar] 36)).alloc (.cells #[.int .i64 0, .int .i64 0, .slice none 0 0] 41)).heap[w.heap.size + 1 + 1 + 1]? = some (.cells #[.int .i64 0, .int .i64 0, .slice none 0 0] 41 (0, 0))) := Lib.hid (heap_alloc_at (by simp))
    go_enter Try.func26, Try.ntmps26
    go_wp2_with fail
    (go_at_call 47; go_call (HS.out _ (by (repeat (first | (with_reducible assumption) | (with_reducible exact Below.refl _ _) | (with_reducible refine below_drewN' ?_ _) | (with_reducible refine Below.drew ?_) | ((with_reducible refine Below.alloc ?_ ?_ _); rotate_left; focus (first | (simp; done) | (simp; omega) | omega)) | ((with_reducible refine Below.setCell ?_ ?_ _); rotate_left; focus (first | (simp; done) | (simp; omega) | omega)))))) as e1 w1 ⟨rfl, hb1⟩; obtain ⟨hc1, hf1⟩ := bcell hb1; have hB1 : Below w.heap.size w w1 := (below_then (by first | (go_grown; done) | (repeat (first | (with_reducible assumption) | (with_reducible exact Below.refl _ _) | (with_reducible refine below_drewN' ?_ _) | (with_reducible refine Below.drew ?_) | ((with_reducible refine Below.alloc ?_ ?_ _); rotate_left; focus (first | (simp; done) | (simp; omega) | omega)) | ((with_reducible refine Below.setCell ?_ ?_ _); rotate_left; focus (first | (simp; done) | (simp; omega) | omega))))) (by first | omega | (simp; done) | (simp; omega)) hb1); have hz1a : w.heap.size < w1.heap.size := (by have := hb1.size; first | omega | (simp at this; omega)); have hz1b : w.heap.size + 1 < w1.heap.size := (by have := hb1.size; first | omega | (simp at this; omega)); have hz1c : w.heap.size + 1 + 1 < w1.heap.size := (by have := hb1.size; first | omega | (simp at this; omega)); have hz1d : w.heap.size + 1 + 1 + 1 < w1.heap.size := (by have := hb1.size; first | omega | (simp at this; omega)))
    have HZ1 := Lib.hid (blk_below HZ0.out hb1 (by simp))
    clear hc1 hf1 hb1
    obtain ⟨z0, z1, z2, zf⟩ := blk3 HZ1.out
    obtain ⟨s0, s1, s2, -⟩ := blk3 (blk_alloc (u := .cells #[.int .i64 0, .int .i64 0, .slice none 0 0, .int .i64 0, .int .i64 0, .int .i64 0, .int .i64 0, .int .i64 0, .int .i64 0, .int .i64 0, .int .i64 0, .int .i64 0, .int .i64 0, .int .i64 0, .int .i64 0, .int .i64 0] 80) (blk3_2 (u := .slice none 0 0) (blk3_1 (u := .int .i64 0) (blk3_0 (u := .int .i64 0) HZ1.out))) (by simp; omega))
    go_wp2_with fail
    (try simp only [Exit.inBlock, Exit.then]); refine bodyPost_ret (by simp [results, Try.results26, go_sem, s0, s1, s2]; try rfl) rfl ?_
    exact ⟨_, rfl, Own.nil, by (repeat (first | (with_reducible assumption) | (with_reducible exact Below.refl _ _) | (with_reducible refine below_drewN' ?_ _) | (with_reducible refine Below.drew ?_) | ((with_reducible refine Below.alloc ?_ ?_ _); rotate_left; focus (first | (simp; done) | (simp; omega) | omega)) | ((with_reducible refine Below.setCell ?_ ?_ _); rotate_left; focus (first | (simp; done) | (simp; omega) | omega))))⟩
  · rw [if_pos rfl, if_pos rfl, gI_0, gI_0]
    obtain ⟨g1, g2, g3⟩ := smp_true h
    obtain ⟨R', C', rfl, rfl, r1, r2, c1, c2, rc, lb, mb⟩ := sampling_nat g3
    have hx := rasB_true g1
    have hrs := g1
    simp only [rasB, Bool.and_eq_true, decide_eq_true_eq] at hrs
    obtain ⟨p1, p2, p3⟩ := rszB_true hrs.1.1
    have hlen := hrs.1.2
    obtain ⟨PR, rfl⟩ := Int.eq_ofNat_of_zero_le (show 0 ≤ pr by omega)
    obtain ⟨PC, rfl⟩ := Int.eq_ofNat_of_zero_le (show 0 ≤ pc by omega)
    rw [← Int.natCast_mul] at p3 hlen
    have hn1 : n = PR * PC := by rw [hr.len] at hlen; omega
    have hxs : ∀ k, k < n → 0 ≤ nth xs k ∧ nth xs k ≤ 255 := fun k hk => hx.2.2 k (by rw [hr.len]; exact hk)
    have HS := Lib.hid (fun (w' : World) (hb : Below w.heap.size w w') => samplerOf_ok (PR : Int) PC A n cp xs m0 m1 m2 m3 m4 m5 m6 m7 m8 R' C' lim mar w' w.heap.size ((hr.more hB).below hb) hb.size hn h)
    have HV := Lib.hid (fun (w' : World) (hb : Below w.heap.size w w') => votes_any (PR : Int) PC A n cp m0 m1 m2 m3 m4 m5 m6 m7 m8 R' C' lim mar 91 #[] (fun i j => fivL (samV PR PC xs m0 m1 m2 m3 m4 m5 m6 m7 m8 R' C' lim mar i j) (tkF PR PC xs m0 m1 m2 m3 m4 m5 m6 m7 m8 lim mar) R' C' i j) w' (fun args w => by kernel_rfl)
      (fun i j hi hj w'' hb'' => by
        have := five1_any PR PC A n cp xs m0 m1 m2 m3 m4 m5 m6 m7 m8 R' C' lim mar i j w'' w.heap.size ((hr.more hB).below (hb.trans (hb''.mono hb.size))) (Nat.le_trans hb.size hb''.size) hn1 (by omega) (by omega) (by omega) hxs g2 lb mb r2 c2 rc hi hj
        rw [show (#[.agg #[.int .i64 PR, .int .i64 PC, .slice A n cp, .int .i64 m0, .int .i64 m1, .int .i64 m2, .int .i64 m3, .int .i64 m4, .int .i64 m5, .int .i64 m6, .int .i64 m7, .int .i64 m8, .int .i64 R', .int .i64 C', .int .i64 lim, .int .i64 mar], .int .i64 (i : Int), .int .i64 (j : Int)] ++ #[] : Array Value) = #[.agg #[.int .i64 PR, .int .i64 PC, .slice A n cp, .int .i64 m0, .int .i64 m1, .int .i64 m2, .int .i64 m3, .int .i64 m4, .int .i64 m5, .int .i64 m6, .int .i64 m7, .int .i64 m8, .int .i64 R', .int .i64 C', .int .i64 lim, .int .i64 mar], .int .i64 (i : Int), .int .i64 (j : Int)] from rfl]
        exact this) (fun i j => by rw [fivL_len]; omega) r2 c2 rc)
    rw [show (PR : Int).toNat = PR from rfl, show (PC : Int).toNat = PC from rfl, show (R' : Int).toNat = R' from rfl, show (C' : Int).toNat = C' from rfl] at *
    obtain ⟨GL, hGL⟩ : ∃ GL, grdL R' C' (fun i j => voteV (fivL (samV PR PC xs m0 m1 m2 m3 m4 m5 m6 m7 m8 R' C' lim mar i j) (tkF PR PC xs m0 m1 m2 m3 m4 m5 m6 m7 m8 lim mar) R' C' i j)) = GL := ⟨_, rfl⟩
    rw [hGL] at HV ⊢
    clear h g1 g2 g3 hr hx hrs p1 p2 p3 hlen hn1 hxs lb mb rc hGL
    have HZ0 : Hid (((((w.alloc (.cells #[.int .i64 PR, .int .i64 PC, .slice A n cp] 32)).alloc (.cells #[.int .i64 m0, .int .i64 m1, .int .i64 m2, .int .i64 m3, .int .i64 m4, .int .i64 m5, .int .i64 m6, .int .i64 m7, .int .i64 m8] 34)).alloc (.cells #[.int .i64 R', .int .i64 C', .int .i64 lim, .int .i64 mar] 36)).alloc (.cells #[.int .i64 0, .int .i64 0, .slice none 0 0] 41)).heap[w.heap.size + 1 + 1 + 1]? = some (.cells #[.int .i64 0, .int .i64 0, .slice none 0 0] 41 (0, 0))) := Lib.hid (heap_alloc_at (by simp))
    go_enter Try.func26, Try.ntmps26
    go_wp2_with fail
    (go_at_call 47; go_call (HS.out _ (by (repeat (first | (with_reducible assumption) | (with_reducible exact Below.refl _ _) | (with_reducible refine below_drewN' ?_ _) | (with_reducible refine Below.drew ?_) | ((with_reducible refine Below.alloc ?_ ?_ _); rotate_left; focus (first | (simp; done) | (simp; omega) | omega)) | ((with_reducible refine Below.setCell ?_ ?_ _); rotate_left; focus (first | (simp; done) | (simp; omega) | omega)))))) as e1 w1 ⟨rfl, hb1⟩; obtain ⟨hc1, hf1⟩ := bcell hb1; have hB1 : Below w.heap.size w w1 := (below_then (by first | (go_grown; done) | (repeat (first | (with_reducible assumption) | (with_reducible exact Below.refl _ _) | (with_reducible refine below_drewN' ?_ _) | (with_reducible refine Below.drew ?_) | ((with_reducible refine Below.alloc ?_ ?_ _); rotate_left; focus (first | (simp; done) | (simp; omega) | omega)) | ((with_reducible refine Below.setCell ?_ ?_ _); rotate_left; focus (first | (simp; done) | (simp; omega) | omega))))) (by first | omega | (simp; done) | (simp; omega)) hb1); have hz1a : w.heap.size < w1.heap.size := (by have := hb1.size; first | omega | (simp at this; omega)); have hz1b : w.heap.size + 1 < w1.heap.size := (by have := hb1.size; first | omega | (simp at this; omega)); have hz1c : w.heap.size + 1 + 1 < w1.heap.size := (by have := hb1.size; first | omega | (simp at this; omega)); have hz1d : w.heap.size + 1 + 1 + 1 < w1.heap.size := (by have := hb1.size; first | omega | (simp at this; omega)))
    have HZ1 := Lib.hid (blk_below HZ0.out hb1 (by simp))
    have HT2 := Lib.hid (heap_alloc_new w1 (.cells #[.int .i64 PR, .int .i64 PC, .slice A n cp, .int .i64 m0, .int .i64 m1, .int .i64 m2, .int .i64 m3, .int .i64 m4, .int .i64 m5, .int .i64 m6, .int .i64 m7, .int .i64 m8, .int .i64 R', .int .i64 C', .int .i64 lim, .int .i64 mar] 80))
    have HZ2 := Lib.hid (blk_alloc (u := .cells #[.int .i64 PR, .int .i64 PC, .slice A n cp, .int .i64 m0, .int .i64 m1, .int .i64 m2, .int .i64 m3, .int .i64 m4, .int .i64 m5, .int .i64 m6, .int .i64 m7, .int .i64 m8, .int .i64 R', .int .i64 C', .int .i64 lim, .int .i64 mar] 80) HZ1.out hz1d)
    have HB2 := Lib.hid (hB1.alloc (Nat.le_of_lt hz1a) (.cells #[.int .i64 PR, .int .i64 PC, .slice A n cp, .int .i64 m0, .int .i64 m1, .int .i64 m2, .int .i64 m3, .int .i64 m4, .int .i64 m5, .int .i64 m6, .int .i64 m7, .int .i64 m8, .int .i64 R', .int .i64 C', .int .i64 lim, .int .i64 mar] 80))
    have hz2 : w1.heap.size < (w1.alloc (.cells #[.int .i64 PR, .int .i64 PC, .slice A n cp, .int .i64 m0, .int .i64 m1, .int .i64 m2, .int .i64 m3, .int .i64 m4, .int .i64 m5, .int .i64 m6, .int .i64 m7, .int .i64 m8, .int .i64 R', .int .i64 C', .int .i64 lim, .int .i64 mar] 80)).heap.size := by simp
    clear hc1 hf1 hb1 hB1
    go_wp2_with fail
    generalize w1.alloc (.cells #[.int .i64 PR, .int .i64 PC, .slice A n cp, .int .i64 m0, .int .i64 m1, .int .i64 m2, .int .i64 m3, .int .i64 m4, .int .i64 m5, .int .i64 m6, .int .i64 m7, .int .i64 m8, .int .i64 R', .int .i64 C', .int .i64 lim, .int .i64 mar] 80) = w2 at *
    have hz2d : w.heap.size + 1 + 1 + 1 < w2.heap.size := by omega
    have HC2 := Lib.hid (blk16s HT2.out)
    go_region_held3 (fun w' => w'.cell? ⟨w1.heap.size, 0, none⟩ = some (.int .i64 PR) ∧ w'.cell? ⟨w1.heap.size, 1, none⟩ = some (.int .i64 PC) ∧ w'.cell? ⟨w1.heap.size, 2, none⟩ = some (.slice A n cp) ∧ w'.cell? ⟨w1.heap.size, 3, none⟩ = some (.int .i64 m0) ∧ w'.cell? ⟨w1.heap.size, 4, none⟩ = some (.int .i64 m1) ∧ w'.cell? ⟨w1.heap.size, 5, none⟩ = some (.int .i64 m2) ∧ w'.cell? ⟨w1.heap.size, 6, none⟩ = some (.int .i64 m3) ∧ w'.cell? ⟨w1.heap.size, 7, none⟩ = some (.int .i64 m4) ∧ w'.cell? ⟨w1.heap.size, 8, none⟩ = some (.int .i64 m5) ∧ w'.cell? ⟨w1.heap.size, 9, none⟩ = some (.int .i64 m6) ∧ w'.cell? ⟨w1.heap.size, 10, none⟩ = some (.int .i64 m7) ∧ w'.cell? ⟨w1.heap.size, 11, none⟩ = some (.int .i64 m8) ∧ w'.cell? ⟨w1.heap.size, 12, none⟩ = some (.int .i64 R') ∧ w'.cell? ⟨w1.heap.size, 13, none⟩ = some (.int .i64 C') ∧ w'.cell? ⟨w1.heap.size, 14, none⟩ = some (.int .i64 lim) ∧ w'.cell? ⟨w1.heap.size, 15, none⟩ = some (.int .i64 mar))
      (first | exact HC2.out | exact blk16s (blk_below HT2.out hD4 hz2) | exact blk16s (blk_below HT2.out hD3 hz2) | exact blk16s (blk_other (blk_other (blk_other (blk_below HT2.out hD4 hz2) (by omega)) (by omega)) (by omega)) | go_keep)
      (first
        | (go_at_call 59; with_reducible refine (five_any _).mono ?_; rintro e3 w3 ⟨rfl, hb3⟩; have hD3 : Below w2.heap.size w2 w3 := below_then (by (repeat (first | (with_reducible assumption) | (with_reducible exact Below.refl _ _) | (with_reducible refine below_drewN' ?_ _) | (with_reducible refine Below.drew ?_) | ((with_reducible refine Below.alloc ?_ ?_ _); rotate_left; focus (first | (simp; done) | (simp; omega) | omega)) | ((with_reducible refine Below.setCell ?_ ?_ _); rotate_left; focus (first | (simp; done) | (simp; omega) | omega))))) (by first | omega | (simp; done) | (simp; omega)) hb3; have hsz3 := hD3.size)
        | (go_at_call 56; with_reducible refine (HV.out _ (HB2.out.trans (hD3.mono (by omega)))).mono ?_; rintro e4 w4 ⟨v4, rfl, ho4, hb4⟩; have hD4 : Below w2.heap.size w2 w4 := hD3.trans (hb4.mono hsz3); obtain ⟨A4, c4, rfl, hr4⟩ := ho4.shape; have HO4 := Lib.hid ho4; have hsz4 := hb4.size; have HZ4 := Lib.hid (blk_below HZ2.out hD4 hz2d); obtain ⟨z0, z1, z2, zf⟩ := blk3 HZ4.out; clear ho4 hr4))
    have hzb : w.heap.size + 1 + 1 + 1 < w3.heap.size := by omega
    go_wp2_with fail
    obtain ⟨s0, s1, s2⟩ := res3 HZ4.out (.int .i64 R') (.int .i64 C') (.slice A4 GL.length c4)
    (try simp only [Exit.inBlock, Exit.then]); refine bodyPost_ret (by simp [results, Try.results26, go_sem, s0, s1, s2]; try rfl) rfl ?_
    have hBF : Below w.heap.size w w4 := HB2.out.trans (hD4.mono (by omega))
    exact ⟨_, rfl, ((((HO4.out.setLt hzb _).setLt hzb _).setLt hzb _)).more (by omega), by (repeat (first | (with_reducible assumption) | (with_reducible exact Below.refl _ _) | (with_reducible refine below_drewN' ?_ _) | (with_reducible refine Below.drew ?_) | ((with_reducible refine Below.alloc ?_ ?_ _); rotate_left; focus (first | (simp; done) | (simp; omega) | omega)) | ((with_reducible refine Below.setCell ?_ ?_ _); rotate_left; focus (first | (simp; done) | (simp; omega) | omega))))⟩
set_option maxRecDepth 20000 in
set_option maxHeartbeats 8000000 in
theorem sSampleFive_any (pr pc : Int) (A : Option Addr) (n cp : Nat) (xs : List Int) (m0 m1 m2 m3 m4 m5 m6 m7 m8 : Int) (R C lim mar : Int) (w : World) (B : Nat) (hr : RI w B A n xs) (hB : B ≤ w.heap.size) (hn : n ≤ 1000000000000000) :
    Calls Try.prog 25 #[.agg #[.int .i64 pr, .int .i64 pc, .slice A n cp], .agg #[.int .i64 m0, .int .i64 m1, .int .i64 m2, .int .i64 m3, .int .i64 m4, .int .i64 m5, .int .i64 m6, .int .i64 m7, .int .i64 m8], .agg #[.int .i64 R, .int .i64 C, .int .i64 lim, .int .i64 mar]] w fun e w' => ∃ v, e = .returned (.tuple #[.agg #[.int .i64 (gI (SampleFive_K pr pc xs m0 m1 m2 m3 m4 m5 m6 m7 m8 R C lim mar) R), .int .i64 (gI (SampleFive_K pr pc xs m0 m1 m2 m3 m4 m5 m6 m7 m8 R C lim mar) C), v], .int .i64 (SampleFive_K pr pc xs m0 m1 m2 m3 m4 m5 m6 m7 m8 R C lim mar)]) ∧ Own w' w.heap.size v (SampleFive_L pr pc xs m0 m1 m2 m3 m4 m5 m6 m7 m8 R C lim mar) ∧ Below w.heap.size w w' := by
  unfold SampleFive_K SampleFive_L
  cases h : smpB pr pc xs m0 m1 m2 m3 m4 m5 m6 m7 m8 R C lim mar
  · rw [if_neg (by simp), if_neg (by simp), gI_1, gI_1]
    have HS := Lib.hid (fun (w' : World) (hb : Below w.heap.size w w') => l26Code_no pr pc A n cp xs m0 m1 m2 m3 m4 m5 m6 m7 m8 R C lim mar w' w.heap.size ((hr.more hB).below hb) hb.size hn h)
    clear hr h
    have HZ0 : Hid (((((w.alloc (.cells #[.int .i64 pr, .int .i64 pc, .slice A n cp] 32)).alloc (.cells #[.int .i64 m0, .int .i64 m1, .int .i64 m2, .int .i64 m3, .int .i64 m4, .int .i64 m5, .int .i64 m6, .int .i64 m7, .int .i64 m8] 34)).alloc (.cells #[.int .i64 R, .int .i64 C, .int .i64 lim, .int .i64 mar] 36)).alloc (.cells #[.int .i64 0, .int .i64 0, .slice none 0 0] 41)).heap[w.heap.size + 1 + 1 + 1]? = some (.cells #[.int .i64 0, .int .i64 0, .slice none 0 0] 41 (0, 0))) := Lib.hid (heap_alloc_at (by simp))
    go_enter Try.func25, Try.ntmps25
    go_wp2_with fail
    (go_at_call 43; go_call (HS.out _ (by (repeat (first | (with_reducible assumption) | (with_reducible exact Below.refl _ _) | (with_reducible refine below_drewN' ?_ _) | (with_reducible refine Below.drew ?_) | ((with_reducible refine Below.alloc ?_ ?_ _); rotate_left; focus (first | (simp; done) | (simp; omega) | omega)) | ((with_reducible refine Below.setCell ?_ ?_ _); rotate_left; focus (first | (simp; done) | (simp; omega) | omega)))))) as e1 w1 ⟨rfl, hb1⟩; obtain ⟨hc1, hf1⟩ := bcell hb1; have hB1 : Below w.heap.size w w1 := (below_then (by first | (go_grown; done) | (repeat (first | (with_reducible assumption) | (with_reducible exact Below.refl _ _) | (with_reducible refine below_drewN' ?_ _) | (with_reducible refine Below.drew ?_) | ((with_reducible refine Below.alloc ?_ ?_ _); rotate_left; focus (first | (simp; done) | (simp; omega) | omega)) | ((with_reducible refine Below.setCell ?_ ?_ _); rotate_left; focus (first | (simp; done) | (simp; omega) | omega))))) (by first | omega | (simp; done) | (simp; omega)) hb1); have hz1a : w.heap.size < w1.heap.size := (by have := hb1.size; first | omega | (simp at this; omega)); have hz1b : w.heap.size + 1 < w1.heap.size := (by have := hb1.size; first | omega | (simp at this; omega)); have hz1c : w.heap.size + 1 + 1 < w1.heap.size := (by have := hb1.size; first | omega | (simp at this; omega)); have hz1d : w.heap.size + 1 + 1 + 1 < w1.heap.size := (by have := hb1.size; first | omega | (simp at this; omega)))
    have HZ1 := Lib.hid (blk_below HZ0.out hb1 (by simp))
    clear hc1 hf1 hb1
    obtain ⟨z0, z1, z2, zf⟩ := blk3 HZ1.out
    obtain ⟨s0, s1, s2⟩ := res3 HZ1.out (.int .i64 0) (.int .i64 0) (.slice none 0 0)
    go_wp2_with fail
    (try simp only [Exit.inBlock, Exit.then]); refine bodyPost_ret (by simp [results, Try.results25, go_sem, s0, s1, s2]; try rfl) rfl ?_
    exact ⟨_, rfl, Own.nil, by (repeat (first | (with_reducible assumption) | (with_reducible exact Below.refl _ _) | (with_reducible refine below_drewN' ?_ _) | (with_reducible refine Below.drew ?_) | ((with_reducible refine Below.alloc ?_ ?_ _); rotate_left; focus (first | (simp; done) | (simp; omega) | omega)) | ((with_reducible refine Below.setCell ?_ ?_ _); rotate_left; focus (first | (simp; done) | (simp; omega) | omega))))⟩
  · rw [if_pos rfl, if_pos rfl, gI_0, gI_0]
    obtain ⟨g1, g2, g3⟩ := smp_true h
    obtain ⟨R', C', rfl, rfl, r1, r2, c1, c2, rc, lb, mb⟩ := sampling_nat g3
    have hx := rasB_true g1
    have hrs := g1
    simp only [rasB, Bool.and_eq_true, decide_eq_true_eq] at hrs
    obtain ⟨p1, p2, p3⟩ := rszB_true hrs.1.1
    have hlen := hrs.1.2
    obtain ⟨PR, rfl⟩ := Int.eq_ofNat_of_zero_le (show 0 ≤ pr by omega)
    obtain ⟨PC, rfl⟩ := Int.eq_ofNat_of_zero_le (show 0 ≤ pc by omega)
    rw [← Int.natCast_mul] at p3 hlen
    have hn1 : n = PR * PC := by rw [hr.len] at hlen; omega
    have hxs : ∀ k, k < n → 0 ≤ nth xs k ∧ nth xs k ≤ 255 := fun k hk => hx.2.2 k (by rw [hr.len]; exact hk)
    have HS := Lib.hid (fun (w' : World) (hb : Below w.heap.size w w') => l26Code_ok (PR : Int) PC A n cp xs m0 m1 m2 m3 m4 m5 m6 m7 m8 R' C' lim mar w' w.heap.size ((hr.more hB).below hb) hb.size hn h)
    have HG := Lib.hid (fun (w' : World) (hb : Below w.heap.size w w') => l26Five_any PR PC A n cp xs m0 m1 m2 m3 m4 m5 m6 m7 m8 R' C' lim mar w' w.heap.size ((hr.more hB).below hb) hb.size hn1 (by omega) (by omega) (by omega) hxs g2 lb mb r2 c2 rc)
    rw [show (PR : Int).toNat = PR from rfl, show (PC : Int).toNat = PC from rfl, show (R' : Int).toNat = R' from rfl, show (C' : Int).toNat = C' from rfl] at *
    obtain ⟨GL, hGL⟩ : ∃ GL, grdL R' C' (fun i j => voteV (fivL (samV PR PC xs m0 m1 m2 m3 m4 m5 m6 m7 m8 R' C' lim mar i j) (tkF PR PC xs m0 m1 m2 m3 m4 m5 m6 m7 m8 lim mar) R' C' i j)) = GL := ⟨_, rfl⟩
    rw [hGL] at HG ⊢
    clear h g1 g2 g3 hr hx hrs p1 p2 p3 hlen hn1 hxs lb mb rc hGL
    have HZ0 : Hid (((((w.alloc (.cells #[.int .i64 PR, .int .i64 PC, .slice A n cp] 32)).alloc (.cells #[.int .i64 m0, .int .i64 m1, .int .i64 m2, .int .i64 m3, .int .i64 m4, .int .i64 m5, .int .i64 m6, .int .i64 m7, .int .i64 m8] 34)).alloc (.cells #[.int .i64 R', .int .i64 C', .int .i64 lim, .int .i64 mar] 36)).alloc (.cells #[.int .i64 0, .int .i64 0, .slice none 0 0] 41)).heap[w.heap.size + 1 + 1 + 1]? = some (.cells #[.int .i64 0, .int .i64 0, .slice none 0 0] 41 (0, 0))) := Lib.hid (heap_alloc_at (by simp))
    go_enter Try.func25, Try.ntmps25
    go_wp2_with fail
    (go_at_call 43; go_call (HS.out _ (by (repeat (first | (with_reducible assumption) | (with_reducible exact Below.refl _ _) | (with_reducible refine below_drewN' ?_ _) | (with_reducible refine Below.drew ?_) | ((with_reducible refine Below.alloc ?_ ?_ _); rotate_left; focus (first | (simp; done) | (simp; omega) | omega)) | ((with_reducible refine Below.setCell ?_ ?_ _); rotate_left; focus (first | (simp; done) | (simp; omega) | omega)))))) as e1 w1 ⟨rfl, hb1⟩; obtain ⟨hc1, hf1⟩ := bcell hb1; have hB1 : Below w.heap.size w w1 := (below_then (by first | (go_grown; done) | (repeat (first | (with_reducible assumption) | (with_reducible exact Below.refl _ _) | (with_reducible refine below_drewN' ?_ _) | (with_reducible refine Below.drew ?_) | ((with_reducible refine Below.alloc ?_ ?_ _); rotate_left; focus (first | (simp; done) | (simp; omega) | omega)) | ((with_reducible refine Below.setCell ?_ ?_ _); rotate_left; focus (first | (simp; done) | (simp; omega) | omega))))) (by first | omega | (simp; done) | (simp; omega)) hb1); have hz1a : w.heap.size < w1.heap.size := (by have := hb1.size; first | omega | (simp at this; omega)); have hz1b : w.heap.size + 1 < w1.heap.size := (by have := hb1.size; first | omega | (simp at this; omega)); have hz1c : w.heap.size + 1 + 1 < w1.heap.size := (by have := hb1.size; first | omega | (simp at this; omega)); have hz1d : w.heap.size + 1 + 1 + 1 < w1.heap.size := (by have := hb1.size; first | omega | (simp at this; omega)))
    have HZ1 := Lib.hid (blk_below HZ0.out hb1 (by simp))
    obtain ⟨k0, k1, k2, -⟩ := blk3 (blk_below (blk_alloc (blk_alloc (blk_alloc (heap_alloc_new w (.cells #[.int .i64 PR, .int .i64 PC, .slice A n cp] 32)) (by simp)) (by simp; try omega)) (by simp; try omega)) hb1 (by simp; try omega))
    obtain ⟨l0, l1, l2, l3, l4, l5, l6, l7, l8, -⟩ := blk9 (blk_below (blk_alloc (blk_alloc (heap_alloc_at (w := w.alloc (.cells #[.int .i64 PR, .int .i64 PC, .slice A n cp] 32)) (b := w.heap.size + 1) (o := .cells #[.int .i64 m0, .int .i64 m1, .int .i64 m2, .int .i64 m3, .int .i64 m4, .int .i64 m5, .int .i64 m6, .int .i64 m7, .int .i64 m8] 34) (by simp)) (by simp; try omega)) (by simp; try omega)) hb1 (by simp; try omega))
    obtain ⟨m'0, m'1, m'2, m'3, -⟩ := blk4 (blk_below (blk_alloc (heap_alloc_at (w := (w.alloc (.cells #[.int .i64 PR, .int .i64 PC, .slice A n cp] 32)).alloc (.cells #[.int .i64 m0, .int .i64 m1, .int .i64 m2, .int .i64 m3, .int .i64 m4, .int .i64 m5, .int .i64 m6, .int .i64 m7, .int .i64 m8] 34)) (b := w.heap.size + 1 + 1) (o := .cells #[.int .i64 R', .int .i64 C', .int .i64 lim, .int .i64 mar] 36) (by simp)) (by simp; try omega)) hb1 (by simp; try omega))
    clear hc1 hf1 hb1
    go_wp2_with fail
    (go_at_call 58; go_call (HG.out _ (by (repeat (first | (with_reducible assumption) | (with_reducible exact Below.refl _ _) | (with_reducible refine below_drewN' ?_ _) | (with_reducible refine Below.drew ?_) | ((with_reducible refine Below.alloc ?_ ?_ _); rotate_left; focus (first | (simp; done) | (simp; omega) | omega)) | ((with_reducible refine Below.setCell ?_ ?_ _); rotate_left; focus (first | (simp; done) | (simp; omega) | omega)))))) as e2 w2 ⟨v2, rfl, ho2, hb2⟩; obtain ⟨hc2, hf2⟩ := bcell hb2; have hB2 : Below w.heap.size w w2 := (below_then (by first | (go_grown; done) | (repeat (first | (with_reducible assumption) | (with_reducible exact Below.refl _ _) | (with_reducible refine below_drewN' ?_ _) | (with_reducible refine Below.drew ?_) | ((with_reducible refine Below.alloc ?_ ?_ _); rotate_left; focus (first | (simp; done) | (simp; omega) | omega)) | ((with_reducible refine Below.setCell ?_ ?_ _); rotate_left; focus (first | (simp; done) | (simp; omega) | omega))))) (by first | omega | (simp; done) | (simp; omega)) hb2); have hz2a : w.heap.size < w2.heap.size := (by have := hb2.size; first | omega | (simp at this; omega)); have hz2b : w.heap.size + 1 < w2.heap.size := (by have := hb2.size; first | omega | (simp at this; omega)); have hz2c : w.heap.size + 1 + 1 < w2.heap.size := (by have := hb2.size; first | omega | (simp at this; omega)); have hz2d : w.heap.size + 1 + 1 + 1 < w2.heap.size := (by have := hb2.size; first | omega | (simp at this; omega)))
    have HZ2 := Lib.hid (blk_below HZ1.out hb2 (by omega))
    obtain ⟨A2, c2', rfl, hr2⟩ := ho2.shape
    have HO2 := Lib.hid ho2
    clear hc2 hf2 hb2 ho2 hr2 k0 k1 k2 l0 l1 l2 l3 l4 l5 l6 l7 l8 m'0 m'1 m'2 m'3
    obtain ⟨z0, z1, z2, zf⟩ := blk3 HZ2.out
    obtain ⟨s0, s1, s2⟩ := res3 HZ2.out (.int .i64 R') (.int .i64 C') (.slice A2 GL.length c2')
    go_wp2_with fail
    (try simp only [Exit.inBlock, Exit.then]); refine bodyPost_ret (by simp [results, Try.results25, go_sem, s0, s1, s2]; try rfl) rfl ?_
    exact ⟨_, rfl, ((((HO2.out.setLt hz1d _).setLt hz1d _).setLt hz1d _)).more (by omega), by (repeat (first | (with_reducible assumption) | (with_reducible exact Below.refl _ _) | (with_reducible refine below_drewN' ?_ _) | (with_reducible refine Below.drew ?_) | ((with_reducible refine Below.alloc ?_ ?_ _); rotate_left; focus (first | (simp; done) | (simp; omega) | omega)) | ((with_reducible refine Below.setCell ?_ ?_ _); rotate_left; focus (first | (simp; done) | (simp; omega) | omega))))⟩
end Go.Proofs.Ytflpllmbpfdnjaa
