/-
  Contracts of chapter 26: the way of five samples. Printed by gen/c26f.py.
-/
import Derived.Test.YtflpllmbpfdnjaaC26L
namespace Go.Proofs.Ytflpllmbpfdnjaa
set_option linter.unusedSimpArgs false
open Go.RowKit

/-- The five samples of a module. -/
def fivL (mid : Int) (tk : Nat → Nat → Nat → Nat → Int) (R C r c : Nat) : List Int :=
  [mid, tk (4 * c + 1) (4 * C) (4 * r + 1) (4 * R), tk (4 * c + 3) (4 * C) (4 * r + 1) (4 * R), tk (4 * c + 1) (4 * C) (4 * r + 3) (4 * R), tk (4 * c + 3) (4 * C) (4 * r + 3) (4 * R)]
theorem fiv_bd {R C r c a b : Nat} (h : R * C ≤ 3500) (hr : r < R) (hc : c < C) (ha : a ≤ 3) (hb : b ≤ 3) : (4 * c + a) * (4 * R) ≤ 56000 ∧ (4 * r + b) * (4 * C) ≤ 56000 ∧ 4 * C * (4 * R) ≤ 56000 := by
  have h1 := Nat.mul_le_mul (show 4 * c + a ≤ 4 * C by omega) (Nat.le_refl (4 * R))
  have h2 := Nat.mul_le_mul (show 4 * r + b ≤ 4 * R by omega) (Nat.le_refl (4 * C))
  have e1 : 4 * C * (4 * R) = 16 * (R * C) := by rw [Nat.mul_mul_mul_comm, Nat.mul_comm C R]
  have e2 : 4 * R * (4 * C) = 16 * (R * C) := by rw [Nat.mul_mul_mul_comm]
  omega
set_option maxRecDepth 20000 in
set_option maxHeartbeats 8000000 in
theorem five1_any (PR PC : Nat) (A : Option Addr) (n cp : Nat) (xs : List Int) (m0 m1 m2 m3 m4 m5 m6 m7 m8 : Int) (R C : Nat) (lim mar : Int) (r c : Nat) (w : World) (B : Nat) (hr : RI w B A n xs) (hB : B ≤ w.heap.size) (hn : n = PR * PC) (hn2 : PR * PC ≤ 40000) (hPR : PR ≤ 400) (hPC : PC ≤ 400) (hxs : ∀ k, k < n → 0 ≤ nth xs k ∧ nth xs k ≤ 255)
    (hmap : isMapB [m0, m1, m2, m3, m4, m5, m6, m7, m8] = true) (hlim : 0 ≤ lim ∧ lim ≤ 256) (hmar : 0 ≤ mar ∧ mar ≤ 256) (hR : R ≤ 3500) (hC : C ≤ 3500) (hRC : R * C ≤ 3500) (hr1 : r < R) (hc1 : c < C) :
    Calls Try.prog 91 #[.agg #[.int .i64 PR, .int .i64 PC, .slice A n cp, .int .i64 m0, .int .i64 m1, .int .i64 m2, .int .i64 m3, .int .i64 m4, .int .i64 m5, .int .i64 m6, .int .i64 m7, .int .i64 m8, .int .i64 R, .int .i64 C, .int .i64 lim, .int .i64 mar], .int .i64 r, .int .i64 c] w fun e w' => ∃ v, e = .returned v ∧ Own w' w.heap.size v (fivL (samV PR PC xs m0 m1 m2 m3 m4 m5 m6 m7 m8 R C lim mar r c) (tkF PR PC xs m0 m1 m2 m3 m4 m5 m6 m7 m8 lim mar) R C r c) ∧ Below w.heap.size w w' := by
  obtain ⟨i0, hi⟩ := info_own' info_i64s
  have HI := Lib.hid (And.intro i0.bytes.le_refl hi)
  clear hi
  have HMD := Lib.hid (fun (w' : World) (hb : Below w.heap.size w w') => middle_any PR PC A n cp xs m0 m1 m2 m3 m4 m5 m6 m7 m8 R C lim mar r c w' w.heap.size ((hr.more hB).below hb) hb.size hn hn2 hPR hPC hxs hmap hlim hmar hR hC hRC hr1 hc1)
  have HT00 := Lib.hid (fun (w' : World) (hb : Below w.heap.size w w') => (show Calls Try.prog 85 #[.agg #[.int .i64 PR, .int .i64 PC, .slice A n cp, .int .i64 m0, .int .i64 m1, .int .i64 m2, .int .i64 m3, .int .i64 m4, .int .i64 m5, .int .i64 m6, .int .i64 m7, .int .i64 m8, .int .i64 R, .int .i64 C, .int .i64 lim, .int .i64 mar], .int .i64 ((4 * c + 1 : Nat) : Int), .int .i64 ((4 * C : Nat) : Int), .int .i64 ((4 * r + 1 : Nat) : Int), .int .i64 ((4 * R : Nat) : Int)] w' fun e w'' => e = .returned (.int .i64 ((tkF PR PC xs m0 m1 m2 m3 m4 m5 m6 m7 m8 lim mar) (4 * c + 1) (4 * C) (4 * r + 1) (4 * R))) ∧ Below w'.heap.size w' w'' from by
    obtain ⟨b1, b2, b3⟩ := fiv_bd (a := 1) (b := 1) hRC hr1 hc1 (by decide) (by decide)
    exact take_any PR PC A n cp xs m0 m1 m2 m3 m4 m5 m6 m7 m8 R C lim mar (4 * c + 1) (4 * C) (4 * r + 1) (4 * R) w' w.heap.size ((hr.more hB).below hb) hb.size hn hn2 hPR hPC hxs hmap hlim hmar (by omega) (by omega) (by omega) (by omega) (by omega) (by omega) (by omega)))
  have HT01 := Lib.hid (fun (w' : World) (hb : Below w.heap.size w w') => (show Calls Try.prog 85 #[.agg #[.int .i64 PR, .int .i64 PC, .slice A n cp, .int .i64 m0, .int .i64 m1, .int .i64 m2, .int .i64 m3, .int .i64 m4, .int .i64 m5, .int .i64 m6, .int .i64 m7, .int .i64 m8, .int .i64 R, .int .i64 C, .int .i64 lim, .int .i64 mar], .int .i64 ((4 * c + 3 : Nat) : Int), .int .i64 ((4 * C : Nat) : Int), .int .i64 ((4 * r + 1 : Nat) : Int), .int .i64 ((4 * R : Nat) : Int)] w' fun e w'' => e = .returned (.int .i64 ((tkF PR PC xs m0 m1 m2 m3 m4 m5 m6 m7 m8 lim mar) (4 * c + 3) (4 * C) (4 * r + 1) (4 * R))) ∧ Below w'.heap.size w' w'' from by
    obtain ⟨b1, b2, b3⟩ := fiv_bd (a := 3) (b := 1) hRC hr1 hc1 (by decide) (by decide)
    exact take_any PR PC A n cp xs m0 m1 m2 m3 m4 m5 m6 m7 m8 R C lim mar (4 * c + 3) (4 * C) (4 * r + 1) (4 * R) w' w.heap.size ((hr.more hB).below hb) hb.size hn hn2 hPR hPC hxs hmap hlim hmar (by omega) (by omega) (by omega) (by omega) (by omega) (by omega) (by omega)))
  have HT10 := Lib.hid (fun (w' : World) (hb : Below w.heap.size w w') => (show Calls Try.prog 85 #[.agg #[.int .i64 PR, .int .i64 PC, .slice A n cp, .int .i64 m0, .int .i64 m1, .int .i64 m2, .int .i64 m3, .int .i64 m4, .int .i64 m5, .int .i64 m6, .int .i64 m7, .int .i64 m8, .int .i64 R, .int .i64 C, .int .i64 lim, .int .i64 mar], .int .i64 ((4 * c + 1 : Nat) : Int), .int .i64 ((4 * C : Nat) : Int), .int .i64 ((4 * r + 3 : Nat) : Int), .int .i64 ((4 * R : Nat) : Int)] w' fun e w'' => e = .returned (.int .i64 ((tkF PR PC xs m0 m1 m2 m3 m4 m5 m6 m7 m8 lim mar) (4 * c + 1) (4 * C) (4 * r + 3) (4 * R))) ∧ Below w'.heap.size w' w'' from by
    obtain ⟨b1, b2, b3⟩ := fiv_bd (a := 1) (b := 3) hRC hr1 hc1 (by decide) (by decide)
    exact take_any PR PC A n cp xs m0 m1 m2 m3 m4 m5 m6 m7 m8 R C lim mar (4 * c + 1) (4 * C) (4 * r + 3) (4 * R) w' w.heap.size ((hr.more hB).below hb) hb.size hn hn2 hPR hPC hxs hmap hlim hmar (by omega) (by omega) (by omega) (by omega) (by omega) (by omega) (by omega)))
  have HT11 := Lib.hid (fun (w' : World) (hb : Below w.heap.size w w') => (show Calls Try.prog 85 #[.agg #[.int .i64 PR, .int .i64 PC, .slice A n cp, .int .i64 m0, .int .i64 m1, .int .i64 m2, .int .i64 m3, .int .i64 m4, .int .i64 m5, .int .i64 m6, .int .i64 m7, .int .i64 m8, .int .i64 R, .int .i64 C, .int .i64 lim, .int .i64 mar], .int .i64 ((4 * c + 3 : Nat) : Int), .int .i64 ((4 * C : Nat) : Int), .int .i64 ((4 * r + 3 : Nat) : Int), .int .i64 ((4 * R : Nat) : Int)] w' fun e w'' => e = .returned (.int .i64 ((tkF PR PC xs m0 m1 m2 m3 m4 m5 m6 m7 m8 lim mar) (4 * c + 3) (4 * C) (4 * r + 3) (4 * R))) ∧ Below w'.heap.size w' w'' from by
    obtain ⟨b1, b2, b3⟩ := fiv_bd (a := 3) (b := 3) hRC hr1 hc1 (by decide) (by decide)
    exact take_any PR PC A n cp xs m0 m1 m2 m3 m4 m5 m6 m7 m8 R C lim mar (4 * c + 3) (4 * C) (4 * r + 3) (4 * R) w' w.heap.size ((hr.more hB).below hb) hb.size hn hn2 hPR hPC hxs hmap hlim hmar (by omega) (by omega) (by omega) (by omega) (by omega) (by omega) (by omega)))
  unfold fivL
  generalize samV PR PC xs m0 m1 m2 m3 m4 m5 m6 m7 m8 R C lim mar r c = v0 at *
  generalize (tkF PR PC xs m0 m1 m2 m3 m4 m5 m6 m7 m8 lim mar) (4 * c + 1) (4 * C) (4 * r + 1) (4 * R) = t00 at *
  generalize (tkF PR PC xs m0 m1 m2 m3 m4 m5 m6 m7 m8 lim mar) (4 * c + 3) (4 * C) (4 * r + 1) (4 * R) = t01 at *
  generalize (tkF PR PC xs m0 m1 m2 m3 m4 m5 m6 m7 m8 lim mar) (4 * c + 1) (4 * C) (4 * r + 3) (4 * R) = t10 at *
  generalize (tkF PR PC xs m0 m1 m2 m3 m4 m5 m6 m7 m8 lim mar) (4 * c + 3) (4 * C) (4 * r + 3) (4 * R) = t11 at *
  obtain ⟨X1, hX1⟩ : ∃ X : Nat, 4 * c + 1 = X := ⟨_, rfl⟩
  obtain ⟨X3, hX3⟩ : ∃ X : Nat, 4 * c + 3 = X := ⟨_, rfl⟩
  obtain ⟨Y1, hY1⟩ : ∃ X : Nat, 4 * r + 1 = X := ⟨_, rfl⟩
  obtain ⟨Y3, hY3⟩ : ∃ X : Nat, 4 * r + 3 = X := ⟨_, rfl⟩
  obtain ⟨M, hM⟩ : ∃ X : Nat, 4 * C = X := ⟨_, rfl⟩
  obtain ⟨K, hK⟩ : ∃ X : Nat, 4 * R = X := ⟨_, rfl⟩
  rw [hX1, hY1, hM, hK] at HT00
  rw [hX3, hY1, hM, hK] at HT01
  rw [hX1, hY3, hM, hK] at HT10
  rw [hX3, hY3, hM, hK] at HT11
  have e1 : 4 * (c : Int) + 1 = (X1 : Int) := by omega
  have e2 : 4 * (c : Int) + 3 = (X3 : Int) := by omega
  have e3 : 4 * (r : Int) + 1 = (Y1 : Int) := by omega
  have e4 : 4 * (r : Int) + 3 = (Y3 : Int) := by omega
  have e5 : 4 * (C : Int) = (M : Int) := by omega
  have e6 : 4 * (R : Int) = (K : Int) := by omega
  have b1 : X1 ≤ 14001 ∧ X3 ≤ 14003 ∧ Y1 ≤ 14001 ∧ Y3 ≤ 14003 ∧ M ≤ 14000 ∧ K ≤ 14000 := by omega
  clear hr hn hxs hmap hRC hX1 hX3 hY1 hY3 hM hK
  have ix0 : ∀ w, (Instr.index 122 (.agg #[.int .i64 Y1, .int .i64 Y3]) (.int .i64 0)).run Try.prog w = .ok (.int .i64 Y1) w := fun _ => by kernel_rfl
  have ix1 : ∀ w, (Instr.index 122 (.agg #[.int .i64 Y1, .int .i64 Y3]) (.int .i64 1)).run Try.prog w = .ok (.int .i64 Y3) w := fun _ => by kernel_rfl
  have ix2 : ∀ w, (Instr.index 122 (.agg #[.int .i64 X1, .int .i64 X3]) (.int .i64 0)).run Try.prog w = .ok (.int .i64 X1) w := fun _ => by kernel_rfl
  have ix3 : ∀ w, (Instr.index 122 (.agg #[.int .i64 X1, .int .i64 X3]) (.int .i64 1)).run Try.prog w = .ok (.int .i64 X3) w := fun _ => by kernel_rfl
  have HS0 := Lib.hid (heap_alloc_new w (.cells #[.int .i64 PR, .int .i64 PC, .slice A n cp, .int .i64 m0, .int .i64 m1, .int .i64 m2, .int .i64 m3, .int .i64 m4, .int .i64 m5, .int .i64 m6, .int .i64 m7, .int .i64 m8, .int .i64 R, .int .i64 C, .int .i64 lim, .int .i64 mar] 80))
  go_enter Try.func91, Try.ntmps91
  go_wp2_with fail
  (go_at_call 49; go_call (HMD.out _ (by (repeat (first | (with_reducible assumption) | (with_reducible exact Below.refl _ _) | (with_reducible refine below_drewN' ?_ _) | (with_reducible refine Below.drew ?_) | ((with_reducible refine Below.alloc ?_ ?_ _); rotate_left; focus (first | (simp; done) | (simp; omega) | omega)) | ((with_reducible refine Below.setCell ?_ ?_ _); rotate_left; focus (first | (simp; done) | (simp; omega) | omega)))))) as e1 w1 ⟨rfl, hb1⟩; obtain ⟨hc1, hf1⟩ := bcell hb1; have hB1 : Below w.heap.size w w1 := (below_then (by first | (go_grown; done) | (repeat (first | (with_reducible assumption) | (with_reducible exact Below.refl _ _) | (with_reducible refine below_drewN' ?_ _) | (with_reducible refine Below.drew ?_) | ((with_reducible refine Below.alloc ?_ ?_ _); rotate_left; focus (first | (simp; done) | (simp; omega) | omega)) | ((with_reducible refine Below.setCell ?_ ?_ _); rotate_left; focus (first | (simp; done) | (simp; omega) | omega))))) (by first | omega | (simp; done) | (simp; omega)) hb1); have hz1a : w.heap.size < w1.heap.size := (by have := hb1.size; first | omega | (simp at this; omega)))
  have HS1 := Lib.hid (blk_below HS0.out hb1 (by simp))
  have HO1 : Hid (Own (w1.alloc (.cells #[.int .i64 v0] 2)) (w.heap.size + 1) (.slice (some ⟨w1.heap.size, 0, none⟩) 1 1) [v0]) := Lib.hid (by
    exact ⟨by simp, .inr ⟨w1.heap.size, 1, #[.int .i64 v0], rfl, by omega, heap_alloc_new _ _, by simp, by unfold maxLen; omega, rfl, rfl⟩⟩)
  have hp0 : Below w.heap.size w (w1.alloc (.cells #[.int .i64 v0] 2)) ∧ w.heap.size + 1 < (w1.alloc (.cells #[.int .i64 v0] 2)).heap.size ∧ (w1.alloc (.cells #[.int .i64 v0] 2)).heap[w.heap.size]? = some (.cells #[.int .i64 PR, .int .i64 PC, .slice A n cp, .int .i64 m0, .int .i64 m1, .int .i64 m2, .int .i64 m3, .int .i64 m4, .int .i64 m5, .int .i64 m6, .int .i64 m7, .int .i64 m8, .int .i64 R, .int .i64 C, .int .i64 lim, .int .i64 mar] 80 (0, 0)) := ⟨hB1.alloc (by omega) _, by simp; omega, blk_alloc HS1.out hz1a⟩
  have HP0 := Lib.hid hp0
  clear hc1 hf1 hb1 hB1 hp0
  go_wp2_with fail
  generalize w1.alloc (.cells #[.int .i64 v0] 2) = w2 at *
  go_loopw [7, 24] (fun out q wr => ∃ k : Nat, k ≤ 2 ∧ q = .int .i64 k ∧ Hid ((k = 0 ∧ Own wr (w.heap.size + 1) out [v0]) ∨ (k = 1 ∧ Own wr (w.heap.size + 1) out [v0, t00, t01]) ∨ (k = 2 ∧ Own wr (w.heap.size + 1) out [v0, t00, t01, t10, t11])) ∧ Hid (Below w.heap.size w wr ∧ w.heap.size + 1 < wr.heap.size ∧ wr.heap[w.heap.size]? = some (.cells #[.int .i64 PR, .int .i64 PC, .slice A n cp, .int .i64 m0, .int .i64 m1, .int .i64 m2, .int .i64 m3, .int .i64 m4, .int .i64 m5, .int .i64 m6, .int .i64 m7, .int .i64 m8, .int .i64 R, .int .i64 C, .int .i64 lim, .int .i64 mar] 80 (0, 0))))
    (fun _ q _ => 2 - (intOf q).toNat)
  case atStart => exact ⟨0, by decide, rfl, Lib.hid (.inl ⟨rfl, HO1.out⟩), HP0⟩
  case round =>
    obtain ⟨k, hk, rfl, ho, hpk⟩ := hrel
    have hBr := hpk.out.1
    have hszr := hpk.out.2.1
    have HSr := Lib.hid hpk.out.2.2
    have hwr : w.heap.size < wr.heap.size := by omega
    rcases ho.out with ⟨hk0, h⟩ | ⟨hk0, h⟩ | ⟨hk0, h⟩
    · have hown := Lib.hid h
      have HK0 := Lib.hid hk0
      have hki : (k : Int) < 2 := by omega
      have kx : ∀ w, (Instr.index 122 (.agg #[.int .i64 Y1, .int .i64 Y3]) (.int .i64 k)).run Try.prog w = .ok (.int .i64 Y1) w := by rw [hk0]; exact ix0
      clear h ho hk0
      go_wp2_with fail
      go_loopw [7, 34] (fun out q wr => ∃ l : Nat, l ≤ 2 ∧ q = .int .i64 l ∧ Hid ((l = 0 ∧ Own wr (w.heap.size + 1) out [v0]) ∨ (l = 1 ∧ Own wr (w.heap.size + 1) out [v0, t00]) ∨ (l = 2 ∧ Own wr (w.heap.size + 1) out [v0, t00, t01])) ∧ Hid (Below w.heap.size w wr ∧ w.heap.size + 1 < wr.heap.size ∧ wr.heap[w.heap.size]? = some (.cells #[.int .i64 PR, .int .i64 PC, .slice A n cp, .int .i64 m0, .int .i64 m1, .int .i64 m2, .int .i64 m3, .int .i64 m4, .int .i64 m5, .int .i64 m6, .int .i64 m7, .int .i64 m8, .int .i64 R, .int .i64 C, .int .i64 lim, .int .i64 mar] 80 (0, 0))))
        (fun _ q _ => 2 - (intOf q).toNat)
      case atStart => exact ⟨0, by decide, rfl, Lib.hid (.inl ⟨rfl, hown.out⟩), hpk⟩
      case round =>
        clear hown hpk hBr hszr HSr hwr
        obtain ⟨l, hl, rfl, ho, hpk⟩ := hrel
        have hBr := hpk.out.1
        have hszr := hpk.out.2.1
        have HSr := Lib.hid hpk.out.2.2
        have hwr : w.heap.size < wr.heap.size := by omega
        rcases ho.out with ⟨hl0, h⟩ | ⟨hl0, h⟩ | ⟨hl0, h⟩
        · have hown := Lib.hid h
          have HL0 := Lib.hid hl0
          have hli : (l : Int) < 2 := by omega
          have jx : ∀ w, (Instr.index 122 (.agg #[.int .i64 X1, .int .i64 X3]) (.int .i64 l)).run Try.prog w = .ok (.int .i64 X1) w := by rw [hl0]; exact ix2
          clear h ho hpk hl0
          obtain ⟨a0, a1, a2, a3, a4, a5, a6, a7, a8, a9, a10, a11, a12, a13, a14, a15, -⟩ := blk16 HSr.out
          have HTj := Lib.hid (fun w' hb => HT00.out w' hb)
          go_wp2_with fail
          (go_at_call 85; go_call (HTj.out _ (by (repeat (first | (with_reducible assumption) | (with_reducible exact Below.refl _ _) | (with_reducible refine below_drewN' ?_ _) | (with_reducible refine Below.drew ?_) | ((with_reducible refine Below.alloc ?_ ?_ _); rotate_left; focus (first | (simp; done) | (simp; omega) | omega)) | ((with_reducible refine Below.setCell ?_ ?_ _); rotate_left; focus (first | (simp; done) | (simp; omega) | omega)))))) as e3 w3 ⟨rfl, hb3⟩; obtain ⟨hc3, hf3⟩ := bcell hb3; have hB3 : Below w.heap.size w w3 := (below_then (by first | (go_grown; done) | (repeat (first | (with_reducible assumption) | (with_reducible exact Below.refl _ _) | (with_reducible refine below_drewN' ?_ _) | (with_reducible refine Below.drew ?_) | ((with_reducible refine Below.alloc ?_ ?_ _); rotate_left; focus (first | (simp; done) | (simp; omega) | omega)) | ((with_reducible refine Below.setCell ?_ ?_ _); rotate_left; focus (first | (simp; done) | (simp; omega) | omega))))) (by first | omega | (simp; done) | (simp; omega)) hb3); have hz3a : w.heap.size < w3.heap.size := (by have := hb3.size; first | omega | (simp at this; omega)); have hz3b : w.heap.size + 1 < w3.heap.size := (by have := hb3.size; first | omega | (simp at this; omega)))
          have HO3 := Lib.hid (hown.out.keep hb3)
          have HS3 := Lib.hid (blk_below HSr.out hb3 hwr)
          have hs3 : Hid (w.heap.size + 1 ≤ w3.heap.size) := Lib.hid (by omega)
          clear hc3 hf3 hb3 a0 a1 a2 a3 a4 a5 a6 a7 a8 a9 a10 a11 a12 a13 a14 a15
          have hLL : [v0].length ≤ 7 := by simp
          go_wp2_with (at_builtin; refine wpList_append_own _ rfl _ _ 22 rfl (w.heap.size + 1) 2 i0 (.int .i64 0) 1 8 Try.underlying22 HI.out.2.1 HI.out.2.2.1 HI.out.2.2.2.1 HI.out.2.2.2.2 rfl (by decide) _ _ _ rfl (Own.alloc HO3.out _) ⟨w3.heap.size, 0, none⟩ 1 1 [.int .i64 (t00)] rfl rfl (cell_one_new _ _ _) (one_ok _) (own_max HO3.out (by omega)) (own_bytes HO3.out (by omega)) (own_base hs3.out) ?_; intro va wa howna hgrowa _; have hoa := Lib.hid (Own.snoc howna); have hga := Lib.hid hgrowa; clear howna hgrowa)
          go_roundw
          case rel => exact ⟨l + 1, by have := HL0.out; omega, by go_num, Lib.hid (by have := hoa.out; exact .inr (.inl ⟨by have := HL0.out; omega, this⟩)), Lib.hid ⟨(hB3.alloc (by omega) _).grown hga.out (by simp; omega) (fun q e => by have := (World.ownsRow.lt HO3.out q e).1; omega),
            by have := hga.out.size; simp at this; omega, (hga.out.block _ (by simp; omega) (fun e => by have := (World.ownsRow.lt HO3.out _ e.symm).1; omega)).trans (blk_alloc HS3.out (by omega))⟩⟩
          case measure => have := HL0.out; simp [intOf]; omega
        · have hown := Lib.hid h
          have HL0 := Lib.hid hl0
          have hli : (l : Int) < 2 := by omega
          have jx : ∀ w, (Instr.index 122 (.agg #[.int .i64 X1, .int .i64 X3]) (.int .i64 l)).run Try.prog w = .ok (.int .i64 X3) w := by rw [hl0]; exact ix3
          clear h ho hpk hl0
          obtain ⟨a0, a1, a2, a3, a4, a5, a6, a7, a8, a9, a10, a11, a12, a13, a14, a15, -⟩ := blk16 HSr.out
          have HTj := Lib.hid (fun w' hb => HT01.out w' hb)
          go_wp2_with fail
          (go_at_call 85; go_call (HTj.out _ (by (repeat (first | (with_reducible assumption) | (with_reducible exact Below.refl _ _) | (with_reducible refine below_drewN' ?_ _) | (with_reducible refine Below.drew ?_) | ((with_reducible refine Below.alloc ?_ ?_ _); rotate_left; focus (first | (simp; done) | (simp; omega) | omega)) | ((with_reducible refine Below.setCell ?_ ?_ _); rotate_left; focus (first | (simp; done) | (simp; omega) | omega)))))) as e3 w3 ⟨rfl, hb3⟩; obtain ⟨hc3, hf3⟩ := bcell hb3; have hB3 : Below w.heap.size w w3 := (below_then (by first | (go_grown; done) | (repeat (first | (with_reducible assumption) | (with_reducible exact Below.refl _ _) | (with_reducible refine below_drewN' ?_ _) | (with_reducible refine Below.drew ?_) | ((with_reducible refine Below.alloc ?_ ?_ _); rotate_left; focus (first | (simp; done) | (simp; omega) | omega)) | ((with_reducible refine Below.setCell ?_ ?_ _); rotate_left; focus (first | (simp; done) | (simp; omega) | omega))))) (by first | omega | (simp; done) | (simp; omega)) hb3); have hz3a : w.heap.size < w3.heap.size := (by have := hb3.size; first | omega | (simp at this; omega)); have hz3b : w.heap.size + 1 < w3.heap.size := (by have := hb3.size; first | omega | (simp at this; omega)))
          have HO3 := Lib.hid (hown.out.keep hb3)
          have HS3 := Lib.hid (blk_below HSr.out hb3 hwr)
          have hs3 : Hid (w.heap.size + 1 ≤ w3.heap.size) := Lib.hid (by omega)
          clear hc3 hf3 hb3 a0 a1 a2 a3 a4 a5 a6 a7 a8 a9 a10 a11 a12 a13 a14 a15
          have hLL : [v0, t00].length ≤ 7 := by simp
          go_wp2_with (at_builtin; refine wpList_append_own _ rfl _ _ 22 rfl (w.heap.size + 1) 2 i0 (.int .i64 0) 1 8 Try.underlying22 HI.out.2.1 HI.out.2.2.1 HI.out.2.2.2.1 HI.out.2.2.2.2 rfl (by decide) _ _ _ rfl (Own.alloc HO3.out _) ⟨w3.heap.size, 0, none⟩ 1 1 [.int .i64 (t01)] rfl rfl (cell_one_new _ _ _) (one_ok _) (own_max HO3.out (by omega)) (own_bytes HO3.out (by omega)) (own_base hs3.out) ?_; intro va wa howna hgrowa _; have hoa := Lib.hid (Own.snoc howna); have hga := Lib.hid hgrowa; clear howna hgrowa)
          go_roundw
          case rel => exact ⟨l + 1, by have := HL0.out; omega, by go_num, Lib.hid (by have := hoa.out; exact .inr (.inr ⟨by have := HL0.out; omega, this⟩)), Lib.hid ⟨(hB3.alloc (by omega) _).grown hga.out (by simp; omega) (fun q e => by have := (World.ownsRow.lt HO3.out q e).1; omega),
            by have := hga.out.size; simp at this; omega, (hga.out.block _ (by simp; omega) (fun e => by have := (World.ownsRow.lt HO3.out _ e.symm).1; omega)).trans (blk_alloc HS3.out (by omega))⟩⟩
          case measure => have := HL0.out; simp [intOf]; omega
        · have hli : ¬ ((l : Int) < 2) := by omega
          have hown := Lib.hid h
          clear h ho hl0
          go_wp2_with fail
          go_roundw
          case rel => exact ⟨k + 1, by have := HK0.out; omega, by go_num, Lib.hid (.inr (.inl ⟨by have := HK0.out; omega, hown.out⟩)), hpk⟩
          case measure => have := HK0.out; simp [intOf]; omega
    · have hown := Lib.hid h
      have HK0 := Lib.hid hk0
      have hki : (k : Int) < 2 := by omega
      have kx : ∀ w, (Instr.index 122 (.agg #[.int .i64 Y1, .int .i64 Y3]) (.int .i64 k)).run Try.prog w = .ok (.int .i64 Y3) w := by rw [hk0]; exact ix1
      clear h ho hk0
      go_wp2_with fail
      go_loopw [7, 34] (fun out q wr => ∃ l : Nat, l ≤ 2 ∧ q = .int .i64 l ∧ Hid ((l = 0 ∧ Own wr (w.heap.size + 1) out [v0, t00, t01]) ∨ (l = 1 ∧ Own wr (w.heap.size + 1) out [v0, t00, t01, t10]) ∨ (l = 2 ∧ Own wr (w.heap.size + 1) out [v0, t00, t01, t10, t11])) ∧ Hid (Below w.heap.size w wr ∧ w.heap.size + 1 < wr.heap.size ∧ wr.heap[w.heap.size]? = some (.cells #[.int .i64 PR, .int .i64 PC, .slice A n cp, .int .i64 m0, .int .i64 m1, .int .i64 m2, .int .i64 m3, .int .i64 m4, .int .i64 m5, .int .i64 m6, .int .i64 m7, .int .i64 m8, .int .i64 R, .int .i64 C, .int .i64 lim, .int .i64 mar] 80 (0, 0))))
        (fun _ q _ => 2 - (intOf q).toNat)
      case atStart => exact ⟨0, by decide, rfl, Lib.hid (.inl ⟨rfl, hown.out⟩), hpk⟩
      case round =>
        clear hown hpk hBr hszr HSr hwr
        obtain ⟨l, hl, rfl, ho, hpk⟩ := hrel
        have hBr := hpk.out.1
        have hszr := hpk.out.2.1
        have HSr := Lib.hid hpk.out.2.2
        have hwr : w.heap.size < wr.heap.size := by omega
        rcases ho.out with ⟨hl0, h⟩ | ⟨hl0, h⟩ | ⟨hl0, h⟩
        · have hown := Lib.hid h
          have HL0 := Lib.hid hl0
          have hli : (l : Int) < 2 := by omega
          have jx : ∀ w, (Instr.index 122 (.agg #[.int .i64 X1, .int .i64 X3]) (.int .i64 l)).run Try.prog w = .ok (.int .i64 X1) w := by rw [hl0]; exact ix2
          clear h ho hpk hl0
          obtain ⟨a0, a1, a2, a3, a4, a5, a6, a7, a8, a9, a10, a11, a12, a13, a14, a15, -⟩ := blk16 HSr.out
          have HTj := Lib.hid (fun w' hb => HT10.out w' hb)
          go_wp2_with fail
          (go_at_call 85; go_call (HTj.out _ (by (repeat (first | (with_reducible assumption) | (with_reducible exact Below.refl _ _) | (with_reducible refine below_drewN' ?_ _) | (with_reducible refine Below.drew ?_) | ((with_reducible refine Below.alloc ?_ ?_ _); rotate_left; focus (first | (simp; done) | (simp; omega) | omega)) | ((with_reducible refine Below.setCell ?_ ?_ _); rotate_left; focus (first | (simp; done) | (simp; omega) | omega)))))) as e3 w3 ⟨rfl, hb3⟩; obtain ⟨hc3, hf3⟩ := bcell hb3; have hB3 : Below w.heap.size w w3 := (below_then (by first | (go_grown; done) | (repeat (first | (with_reducible assumption) | (with_reducible exact Below.refl _ _) | (with_reducible refine below_drewN' ?_ _) | (with_reducible refine Below.drew ?_) | ((with_reducible refine Below.alloc ?_ ?_ _); rotate_left; focus (first | (simp; done) | (simp; omega) | omega)) | ((with_reducible refine Below.setCell ?_ ?_ _); rotate_left; focus (first | (simp; done) | (simp; omega) | omega))))) (by first | omega | (simp; done) | (simp; omega)) hb3); have hz3a : w.heap.size < w3.heap.size := (by have := hb3.size; first | omega | (simp at this; omega)); have hz3b : w.heap.size + 1 < w3.heap.size := (by have := hb3.size; first | omega | (simp at this; omega)))
          have HO3 := Lib.hid (hown.out.keep hb3)
          have HS3 := Lib.hid (blk_below HSr.out hb3 hwr)
          have hs3 : Hid (w.heap.size + 1 ≤ w3.heap.size) := Lib.hid (by omega)
          clear hc3 hf3 hb3 a0 a1 a2 a3 a4 a5 a6 a7 a8 a9 a10 a11 a12 a13 a14 a15
          have hLL : [v0, t00, t01].length ≤ 7 := by simp
          go_wp2_with (at_builtin; refine wpList_append_own _ rfl _ _ 22 rfl (w.heap.size + 1) 2 i0 (.int .i64 0) 1 8 Try.underlying22 HI.out.2.1 HI.out.2.2.1 HI.out.2.2.2.1 HI.out.2.2.2.2 rfl (by decide) _ _ _ rfl (Own.alloc HO3.out _) ⟨w3.heap.size, 0, none⟩ 1 1 [.int .i64 (t10)] rfl rfl (cell_one_new _ _ _) (one_ok _) (own_max HO3.out (by omega)) (own_bytes HO3.out (by omega)) (own_base hs3.out) ?_; intro va wa howna hgrowa _; have hoa := Lib.hid (Own.snoc howna); have hga := Lib.hid hgrowa; clear howna hgrowa)
          go_roundw
          case rel => exact ⟨l + 1, by have := HL0.out; omega, by go_num, Lib.hid (by have := hoa.out; exact .inr (.inl ⟨by have := HL0.out; omega, this⟩)), Lib.hid ⟨(hB3.alloc (by omega) _).grown hga.out (by simp; omega) (fun q e => by have := (World.ownsRow.lt HO3.out q e).1; omega),
            by have := hga.out.size; simp at this; omega, (hga.out.block _ (by simp; omega) (fun e => by have := (World.ownsRow.lt HO3.out _ e.symm).1; omega)).trans (blk_alloc HS3.out (by omega))⟩⟩
          case measure => have := HL0.out; simp [intOf]; omega
        · have hown := Lib.hid h
          have HL0 := Lib.hid hl0
          have hli : (l : Int) < 2 := by omega
          have jx : ∀ w, (Instr.index 122 (.agg #[.int .i64 X1, .int .i64 X3]) (.int .i64 l)).run Try.prog w = .ok (.int .i64 X3) w := by rw [hl0]; exact ix3
          clear h ho hpk hl0
          obtain ⟨a0, a1, a2, a3, a4, a5, a6, a7, a8, a9, a10, a11, a12, a13, a14, a15, -⟩ := blk16 HSr.out
          have HTj := Lib.hid (fun w' hb => HT11.out w' hb)
          go_wp2_with fail
          (go_at_call 85; go_call (HTj.out _ (by (repeat (first | (with_reducible assumption) | (with_reducible exact Below.refl _ _) | (with_reducible refine below_drewN' ?_ _) | (with_reducible refine Below.drew ?_) | ((with_reducible refine Below.alloc ?_ ?_ _); rotate_left; focus (first | (simp; done) | (simp; omega) | omega)) | ((with_reducible refine Below.setCell ?_ ?_ _); rotate_left; focus (first | (simp; done) | (simp; omega) | omega)))))) as e3 w3 ⟨rfl, hb3⟩; obtain ⟨hc3, hf3⟩ := bcell hb3; have hB3 : Below w.heap.size w w3 := (below_then (by first | (go_grown; done) | (repeat (first | (with_reducible assumption) | (with_reducible exact Below.refl _ _) | (with_reducible refine below_drewN' ?_ _) | (with_reducible refine Below.drew ?_) | ((with_reducible refine Below.alloc ?_ ?_ _); rotate_left; focus (first | (simp; done) | (simp; omega) | omega)) | ((with_reducible refine Below.setCell ?_ ?_ _); rotate_left; focus (first | (simp; done) | (simp; omega) | omega))))) (by first | omega | (simp; done) | (simp; omega)) hb3); have hz3a : w.heap.size < w3.heap.size := (by have := hb3.size; first | omega | (simp at this; omega)); have hz3b : w.heap.size + 1 < w3.heap.size := (by have := hb3.size; first | omega | (simp at this; omega)))
          have HO3 := Lib.hid (hown.out.keep hb3)
          have HS3 := Lib.hid (blk_below HSr.out hb3 hwr)
          have hs3 : Hid (w.heap.size + 1 ≤ w3.heap.size) := Lib.hid (by omega)
          clear hc3 hf3 hb3 a0 a1 a2 a3 a4 a5 a6 a7 a8 a9 a10 a11 a12 a13 a14 a15
          have hLL : [v0, t00, t01, t10].length ≤ 7 := by simp
          go_wp2_with (at_builtin; refine wpList_append_own _ rfl _ _ 22 rfl (w.heap.size + 1) 2 i0 (.int .i64 0) 1 8 Try.underlying22 HI.out.2.1 HI.out.2.2.1 HI.out.2.2.2.1 HI.out.2.2.2.2 rfl (by decide) _ _ _ rfl (Own.alloc HO3.out _) ⟨w3.heap.size, 0, none⟩ 1 1 [.int .i64 (t11)] rfl rfl (cell_one_new _ _ _) (one_ok _) (own_max HO3.out (by omega)) (own_bytes HO3.out (by omega)) (own_base hs3.out) ?_; intro va wa howna hgrowa _; have hoa := Lib.hid (Own.snoc howna); have hga := Lib.hid hgrowa; clear howna hgrowa)
          go_roundw
          case rel => exact ⟨l + 1, by have := HL0.out; omega, by go_num, Lib.hid (by have := hoa.out; exact .inr (.inr ⟨by have := HL0.out; omega, this⟩)), Lib.hid ⟨(hB3.alloc (by omega) _).grown hga.out (by simp; omega) (fun q e => by have := (World.ownsRow.lt HO3.out q e).1; omega),
            by have := hga.out.size; simp at this; omega, (hga.out.block _ (by simp; omega) (fun e => by have := (World.ownsRow.lt HO3.out _ e.symm).1; omega)).trans (blk_alloc HS3.out (by omega))⟩⟩
          case measure => have := HL0.out; simp [intOf]; omega
        · have hli : ¬ ((l : Int) < 2) := by omega
          have hown := Lib.hid h
          clear h ho hl0
          go_wp2_with fail
          go_roundw
          case rel => exact ⟨k + 1, by have := HK0.out; omega, by go_num, Lib.hid (.inr (.inr ⟨by have := HK0.out; omega, hown.out⟩)), hpk⟩
          case measure => have := HK0.out; simp [intOf]; omega
    · have HF := Lib.hid h
      have hki : ¬ ((k : Int) < 2) := by omega
      obtain ⟨A', c', rfl, -⟩ := h.shape
      clear h ho hk0
      go_wp2_with fail
      go_ret
      exact ⟨_, rfl, HF.out.more (by omega), hBr⟩
end Go.Proofs.Ytflpllmbpfdnjaa
