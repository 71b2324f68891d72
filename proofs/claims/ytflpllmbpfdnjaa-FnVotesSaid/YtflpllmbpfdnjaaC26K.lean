/-
  Contracts of chapter 26: the samples of several lines, the votes of a way, the grid of the votes. Printed by gen/c26k.py.
-/
import Derived.Test.YtflpllmbpfdnjaaC26H
import Derived.Test.YtflpllmbpfdnjaaC26J
namespace Go.Proofs.Ytflpllmbpfdnjaa
set_option linter.unusedSimpArgs false
open Go.RowKit

/-- The sample at the point {x / m, y / k}. -/
def tkF (PR PC : Nat) (xs : List Int) (m0 m1 m2 m3 m4 m5 m6 m7 m8 : Int) (lim mar : Int) (x m y k : Nat) : Int :=
  takeV PR PC xs (imgI m0 m1 m2 ((x * k : Nat) : Int) ((y * m : Nat) : Int) ((m * k : Nat) : Int)) (imgI m3 m4 m5 ((x * k : Nat) : Int) ((y * m : Nat) : Int) ((m * k : Nat) : Int)) (imgI m6 m7 m8 ((x * k : Nat) : Int) ((y * m : Nat) : Int) ((m * k : Nat) : Int)) lim mar
/-- The samples of L lines. -/
def stkL (tk : Nat → Nat → Nat → Nat → Int) (R C L r c : Nat) : List Int := (List.range L).map fun j => tk (2 * c + 1) (2 * C) (2 * (r * L + j) + 1) (2 * R * L)
theorem stkL_len (tk : Nat → Nat → Nat → Nat → Int) (R C L r c : Nat) : (stkL tk R C L r c).length = L := by simp [stkL]
theorem stkL_nth {tk : Nat → Nat → Nat → Nat → Int} {R C L r c j : Nat} (hj : j < L) : nth (stkL tk R C L r c) j = tk (2 * c + 1) (2 * C) (2 * (r * L + j) + 1) (2 * R * L) := by
  rw [nth_lt (by rw [stkL_len]; exact hj)]
  simp [stkL]
theorem stk_bd {R C L r c j : Nat} (h : R * C ≤ 3500) (hL : L ≤ 7) (hr : r < R) (hc : c < C) (hj : j < L) : (2 * c + 1) * (2 * R * L) ≤ 98000 ∧ (2 * (r * L + j) + 1) * (2 * C) ≤ 98000 ∧ 2 * C * (2 * R * L) ≤ 98000 ∧ 2 * (r * L + j) + 1 ≤ 2 * R * L := by
  have h0 : r * L + j < R * L := by
    have := Nat.mul_le_mul_right L (show r + 1 ≤ R by omega)
    rw [Nat.add_mul] at this; omega
  have e0 : 2 * R * L = 2 * (R * L) := Nat.mul_assoc 2 R L
  have h1 := Nat.mul_le_mul (show 2 * c + 1 ≤ 2 * C by omega) (Nat.le_refl (2 * R * L))
  have h2 := Nat.mul_le_mul (show 2 * (r * L + j) + 1 ≤ 2 * R * L by omega) (Nat.le_refl (2 * C))
  have e1 : 2 * C * (2 * R * L) = 4 * (R * C * L) := by
    rw [show 2 * C * (2 * R * L) = (2 * C * (2 * R)) * L by rw [Nat.mul_assoc (2 * C)], Nat.mul_mul_mul_comm, Nat.mul_comm C R, Nat.mul_assoc]
  have e2 : 2 * R * L * (2 * C) = 4 * (R * C * L) := by rw [Nat.mul_comm, e1]
  have h3 := Nat.mul_le_mul h hL
  exact ⟨by omega, by omega, by omega, by omega⟩
theorem blk1 {w : World} {b t : Nat} {x : Value} (h : w.heap[b]? = some (.cells #[x] t (0, 0))) : w.cell? ⟨b, 0, none⟩ = some x ∧ ∀ k, w.frozen? ⟨b, k, none⟩ = false := by
  refine ⟨?_, fun k => ?_⟩ <;> simp [World.cell?, World.frozen?, h]
set_option maxRecDepth 20000 in
set_option maxHeartbeats 8000000 in
theorem stack1_any (PR PC : Nat) (A : Option Addr) (n cp : Nat) (xs : List Int) (m0 m1 m2 m3 m4 m5 m6 m7 m8 : Int) (R C : Nat) (lim mar : Int) (L r c p : Nat) (w : World) (B : Nat) (hr : RI w B A n xs) (hB : B ≤ w.heap.size) (hn : n = PR * PC) (hn2 : PR * PC ≤ 40000) (hPR : PR ≤ 400) (hPC : PC ≤ 400) (hxs : ∀ k, k < n → 0 ≤ nth xs k ∧ nth xs k ≤ 255)
    (hmap : isMapB [m0, m1, m2, m3, m4, m5, m6, m7, m8] = true) (hlim : 0 ≤ lim ∧ lim ≤ 256) (hmar : 0 ≤ mar ∧ mar ≤ 256) (hR : R ≤ 3500) (hC : C ≤ 3500) (hRC : R * C ≤ 3500) (hr1 : r < R) (hc1 : c < C) (hL : L ≤ 7)
    (hp : w.heap[p]? = some (.cells #[.int .i64 L] 2 (0, 0))) :
    Calls Try.prog 90 #[.agg #[.int .i64 PR, .int .i64 PC, .slice A n cp, .int .i64 m0, .int .i64 m1, .int .i64 m2, .int .i64 m3, .int .i64 m4, .int .i64 m5, .int .i64 m6, .int .i64 m7, .int .i64 m8, .int .i64 R, .int .i64 C, .int .i64 lim, .int .i64 mar], .int .i64 r, .int .i64 c, .pointer (some ⟨p, 0, none⟩)] w fun e w' => ∃ v, e = .returned v ∧ Own w' w.heap.size v (stkL (tkF PR PC xs m0 m1 m2 m3 m4 m5 m6 m7 m8 lim mar) R C L r c) ∧ Below w.heap.size w w' := by
  obtain ⟨i0, hi⟩ := info_own' info_i64s
  have HI := Lib.hid (And.intro i0.bytes.le_refl hi)
  clear hi
  have hpw := lt_of_block hp
  have HP := Lib.hid hp
  obtain ⟨GL, hGL⟩ : ∃ GL, stkL (tkF PR PC xs m0 m1 m2 m3 m4 m5 m6 m7 m8 lim mar) R C L r c = GL := ⟨_, rfl⟩
  have HT : Hid (∀ j : Nat, j < L → ∀ w', Below w.heap.size w w' → Calls Try.prog 85 #[.agg #[.int .i64 PR, .int .i64 PC, .slice A n cp, .int .i64 m0, .int .i64 m1, .int .i64 m2, .int .i64 m3, .int .i64 m4, .int .i64 m5, .int .i64 m6, .int .i64 m7, .int .i64 m8, .int .i64 R, .int .i64 C, .int .i64 lim, .int .i64 mar], .int .i64 ((2 * c + 1 : Nat) : Int), .int .i64 ((2 * C : Nat) : Int), .int .i64 ((2 * (r * L + j) + 1 : Nat) : Int), .int .i64 ((2 * R * L : Nat) : Int)] w' fun e w'' => e = .returned (.int .i64 (nth GL j)) ∧ Below w'.heap.size w' w'') := Lib.hid (fun j hj w' hb => by
    obtain ⟨b1, b2, b3, b4⟩ := stk_bd hRC hL hr1 hc1 hj
    have := take_any PR PC A n cp xs m0 m1 m2 m3 m4 m5 m6 m7 m8 R C lim mar (2 * c + 1) (2 * C) (2 * (r * L + j) + 1) (2 * R * L) w' w.heap.size ((hr.more hB).below hb) hb.size hn hn2 hPR hPC hxs hmap hlim hmar (by omega) (by omega) (by omega) (by omega) (by omega) (by rw [Nat.mul_assoc] at b4; have := Nat.mul_le_mul hR hL; omega) (by rw [Nat.mul_assoc]; have := Nat.mul_le_mul hR hL; omega)
    rw [← hGL, stkL_nth hj]
    exact this)
  have hGl : GL.length = L := by rw [← hGL, stkL_len]
  rw [hGL]
  have hbR := Nat.mul_le_mul hR hL
  have hbr : r * L ≤ 24500 := Nat.mul_le_mul (show r ≤ 3500 by omega) hL
  obtain ⟨X, hX⟩ : ∃ X : Nat, 2 * c + 1 = X := ⟨_, rfl⟩
  obtain ⟨M, hM⟩ : ∃ X : Nat, 2 * C = X := ⟨_, rfl⟩
  obtain ⟨RL, hRL⟩ : ∃ X : Nat, r * L = X := ⟨_, rfl⟩
  obtain ⟨R2, hR2⟩ : ∃ X : Nat, 2 * R = X := ⟨_, rfl⟩
  obtain ⟨K, hK⟩ : ∃ X : Nat, R2 * L = X := ⟨_, rfl⟩
  have hKb : K ≤ 49000 := by rw [← hK, ← hR2, Nat.mul_assoc]; omega
  rw [hX, hM, hRL, hR2, hK] at HT
  have e1 : 2 * (c : Int) + 1 = (X : Int) := by omega
  have e2 : 2 * (C : Int) = (M : Int) := by omega
  have e3 : (r : Int) * (L : Int) = (RL : Int) := by rw [← hRL]; simp
  have e4 : 2 * (R : Int) = (R2 : Int) := by omega
  have e5 : (R2 : Int) * (L : Int) = (K : Int) := by rw [← hK]; simp
  have hXb : X ≤ 7001 := by omega
  have hMb : M ≤ 7000 := by omega
  have hRLb : RL ≤ 24500 := by omega
  have hR2b : R2 ≤ 7000 := by omega
  have HGL := Lib.hid hGl
  clear hGl hGL hr hn hxs hmap hRC hX hM hRL hR2 hK hbR hbr hp
  have HS0 := Lib.hid (show ((w.alloc (.cells #[.int .i64 PR, .int .i64 PC, .slice A n cp, .int .i64 m0, .int .i64 m1, .int .i64 m2, .int .i64 m3, .int .i64 m4, .int .i64 m5, .int .i64 m6, .int .i64 m7, .int .i64 m8, .int .i64 R, .int .i64 C, .int .i64 lim, .int .i64 mar] 80)).alloc (.cells #[] 2)).heap[w.heap.size]? = some (.cells #[.int .i64 PR, .int .i64 PC, .slice A n cp, .int .i64 m0, .int .i64 m1, .int .i64 m2, .int .i64 m3, .int .i64 m4, .int .i64 m5, .int .i64 m6, .int .i64 m7, .int .i64 m8, .int .i64 R, .int .i64 C, .int .i64 lim, .int .i64 mar] 80 (0, 0)) from blk_alloc (heap_alloc_new _ _) (by simp))
  have HP0 := Lib.hid (show ((w.alloc (.cells #[.int .i64 PR, .int .i64 PC, .slice A n cp, .int .i64 m0, .int .i64 m1, .int .i64 m2, .int .i64 m3, .int .i64 m4, .int .i64 m5, .int .i64 m6, .int .i64 m7, .int .i64 m8, .int .i64 R, .int .i64 C, .int .i64 lim, .int .i64 mar] 80)).alloc (.cells #[] 2)).heap[p]? = some (.cells #[.int .i64 L] 2 (0, 0)) from blk_alloc (blk_alloc HP.out hpw) (by simp; omega))
  have HB0 : Hid (Below w.heap.size w ((w.alloc (.cells #[.int .i64 PR, .int .i64 PC, .slice A n cp, .int .i64 m0, .int .i64 m1, .int .i64 m2, .int .i64 m3, .int .i64 m4, .int .i64 m5, .int .i64 m6, .int .i64 m7, .int .i64 m8, .int .i64 R, .int .i64 C, .int .i64 lim, .int .i64 mar] 80)).alloc (.cells #[] 2))) := Lib.hid (by go_grown)
  have HO0 : Hid (Own ((w.alloc (.cells #[.int .i64 PR, .int .i64 PC, .slice A n cp, .int .i64 m0, .int .i64 m1, .int .i64 m2, .int .i64 m3, .int .i64 m4, .int .i64 m5, .int .i64 m6, .int .i64 m7, .int .i64 m8, .int .i64 R, .int .i64 C, .int .i64 lim, .int .i64 mar] 80)).alloc (.cells #[] 2)) (w.heap.size + 1) (.slice (some ⟨w.heap.size + 1, 0, none⟩) 0 0) []) := Lib.hid (by
    have := World.ownsRow_made (e := 2) (size := 1) (base := w.heap.size + 1) (w.alloc (.cells #[.int .i64 PR, .int .i64 PC, .slice A n cp, .int .i64 m0, .int .i64 m1, .int .i64 m2, .int .i64 m3, .int .i64 m4, .int .i64 m5, .int .i64 m6, .int .i64 m7, .int .i64 m8, .int .i64 R, .int .i64 C, .int .i64 lim, .int .i64 mar] 80)) #[] 0 (by simp) (by unfold maxLen; omega) rfl
    simpa [Own] using this)
  go_enter Try.func90, Try.ntmps90
  go_wp2_with fail
  have hw2s : ((w.alloc (.cells #[.int .i64 PR, .int .i64 PC, .slice A n cp, .int .i64 m0, .int .i64 m1, .int .i64 m2, .int .i64 m3, .int .i64 m4, .int .i64 m5, .int .i64 m6, .int .i64 m7, .int .i64 m8, .int .i64 R, .int .i64 C, .int .i64 lim, .int .i64 mar] 80)).alloc (.cells #[] 2)).heap.size = w.heap.size + 1 + 1 := by simp
  generalize (w.alloc (.cells #[.int .i64 PR, .int .i64 PC, .slice A n cp, .int .i64 m0, .int .i64 m1, .int .i64 m2, .int .i64 m3, .int .i64 m4, .int .i64 m5, .int .i64 m6, .int .i64 m7, .int .i64 m8, .int .i64 R, .int .i64 C, .int .i64 lim, .int .i64 mar] 80)).alloc (.cells #[] 2) = w2 at *
  go_loopw [8, 9] (fun out q wr => ∃ j : Nat, j ≤ L ∧ q = .int .i64 j ∧ Hid (Own wr (w.heap.size + 1) out (GL.take j)) ∧ Hid (Below w.heap.size w wr ∧ w.heap.size + 1 < wr.heap.size ∧ wr.heap[w.heap.size]? = some (.cells #[.int .i64 PR, .int .i64 PC, .slice A n cp, .int .i64 m0, .int .i64 m1, .int .i64 m2, .int .i64 m3, .int .i64 m4, .int .i64 m5, .int .i64 m6, .int .i64 m7, .int .i64 m8, .int .i64 R, .int .i64 C, .int .i64 lim, .int .i64 mar] 80 (0, 0)) ∧ wr.heap[p]? = some (.cells #[.int .i64 L] 2 (0, 0))))
    (fun _ q _ => L - (intOf q).toNat)
  case atStart => exact ⟨0, Nat.zero_le _, rfl, Lib.hid (by simpa using HO0.out), Lib.hid ⟨HB0.out, by omega, HS0.out, HP0.out⟩⟩
  case round =>
    obtain ⟨j, hj, rfl, hown, hpk⟩ := hrel
    have hBr := hpk.out.1
    have hszr := hpk.out.2.1
    have HSr := Lib.hid hpk.out.2.2.1
    have HPr := Lib.hid hpk.out.2.2.2
    have hwr : w.heap.size < wr.heap.size := by omega
    have hpr : p < wr.heap.size := by omega
    obtain ⟨l0, -⟩ := blk1 HPr.out
    obtain ⟨a0, a1, a2, a3, a4, a5, a6, a7, a8, a9, a10, a11, a12, a13, a14, a15, -⟩ := blk16 HSr.out
    clear hpk
    by_cases hlt : j < L
    · have hji : (j : Int) < (L : Int) := by omega
      have htk := take_nth (xs := GL) (k := j) (by rw [HGL.out]; exact hlt)
      have HTK := Lib.hid htk
      have HTj := Lib.hid (fun w' hb => HT.out j hlt w' hb)
      have hlen : (GL.take j).length ≤ 7 := by rw [List.length_take]; omega
      have HLN := Lib.hid hlen
      clear htk hlen
      generalize nth GL j = V at *
      obtain ⟨Y, hY⟩ : ∃ Y : Nat, 2 * (RL + j) + 1 = Y := ⟨_, rfl⟩
      rw [hY] at HTj
      have e6 : 2 * ((RL : Int) + (j : Int)) + 1 = (Y : Int) := by omega
      have hYb : Y ≤ 50000 := by omega
      clear hY
      go_wp2_with fail
      (go_at_call 85; go_call (HTj.out _ (by (repeat (first | (with_reducible assumption) | (with_reducible exact Below.refl _ _) | (with_reducible refine below_drewN' ?_ _) | (with_reducible refine Below.drew ?_) | ((with_reducible refine Below.alloc ?_ ?_ _); rotate_left; focus (first | (simp; done) | (simp; omega) | omega)) | ((with_reducible refine Below.setCell ?_ ?_ _); rotate_left; focus (first | (simp; done) | (simp; omega) | omega)))))) as e3 w3 ⟨rfl, hb3⟩; obtain ⟨hc3, hf3⟩ := bcell hb3; have hB3 : Below w.heap.size w w3 := (below_then (by first | (go_grown; done) | (repeat (first | (with_reducible assumption) | (with_reducible exact Below.refl _ _) | (with_reducible refine below_drewN' ?_ _) | (with_reducible refine Below.drew ?_) | ((with_reducible refine Below.alloc ?_ ?_ _); rotate_left; focus (first | (simp; done) | (simp; omega) | omega)) | ((with_reducible refine Below.setCell ?_ ?_ _); rotate_left; focus (first | (simp; done) | (simp; omega) | omega))))) (by first | omega | (simp; done) | (simp; omega)) hb3); have hz3a : w.heap.size < w3.heap.size := (by have := hb3.size; first | omega | (simp at this; omega)); have hz3b : w.heap.size + 1 < w3.heap.size := (by have := hb3.size; first | omega | (simp at this; omega)))
      have HO3 := Lib.hid (hown.out.keep hb3)
      have HS3 := Lib.hid (blk_below HSr.out hb3 hwr)
      have HP3 := Lib.hid (blk_below HPr.out hb3 hpr)
      have hs3 : Hid (w.heap.size + 1 ≤ w3.heap.size) := Lib.hid (by omega)
      have hpw3 : p < w3.heap.size := by have := hb3.size; omega
      clear hc3 hf3 hb3 l0 a0 a1 a2 a3 a4 a5 a6 a7 a8 a9 a10 a11 a12 a13 a14 a15
      have hLL := HLN.out
      go_wp2_with (at_builtin; refine wpList_append_own _ rfl _ _ 22 rfl (w.heap.size + 1) 2 i0 (.int .i64 0) 1 8 Try.underlying22 HI.out.2.1 HI.out.2.2.1 HI.out.2.2.2.1 HI.out.2.2.2.2 rfl (by decide) _ _ _ rfl (Own.alloc HO3.out _) ⟨w3.heap.size, 0, none⟩ 1 1 [.int .i64 (V)] rfl rfl (cell_one_new _ _ _) (one_ok _) (own_max HO3.out (by omega)) (own_bytes HO3.out (by omega)) (own_base hs3.out) ?_; intro va wa howna hgrowa _; have hoa := Lib.hid (Own.snoc howna); have hga := Lib.hid hgrowa; clear howna hgrowa)
      have hnb : ∀ q, q ≤ w.heap.size → some q ≠ _ := fun q hq e => by have := (World.ownsRow.lt HO3.out q e.symm).1; omega
      go_roundw
      case rel => exact ⟨j + 1, by omega, by go_num, Lib.hid (by have := hoa.out; rw [← HTK.out] at this; exact this), Lib.hid ⟨(hB3.alloc (by omega) _).grown hga.out (by simp; omega) (fun q e => by have := (World.ownsRow.lt HO3.out q e).1; omega),
        by have := hga.out.size; simp at this; omega, (hga.out.block _ (by simp; omega) (hnb _ (Nat.le_refl _))).trans (blk_alloc HS3.out (by omega)), (hga.out.block _ (by simp; omega) (hnb _ (by omega))).trans (blk_alloc HP3.out hpw3)⟩⟩
      case measure => simp [intOf]; omega
    · obtain rfl : j = L := by omega
      have hfin := hown.out
      rw [List.take_of_length_le (by rw [HGL.out]; exact Nat.le_refl _)] at hfin
      have HF := Lib.hid hfin
      have hji : ¬ ((j : Int) < (j : Int)) := by omega
      obtain ⟨A', c', rfl, -⟩ := hfin.shape
      clear hfin
      go_wp2_with fail
      go_ret
      exact ⟨_, rfl, HF.out.more (by omega), hBr⟩
set_option maxRecDepth 20000 in
set_option maxHeartbeats 4000000 in
theorem votes1_any (pr pc : Int) (A : Option Addr) (n cp : Nat) (m0 m1 m2 m3 m4 m5 m6 m7 m8 : Int) (R C : Int) (lim mar : Int) (F : FuncId) (cap : Array Value) (sl : List Int) (r c : Int) (wp sp : Nat) (w : World)
    (HEN : ∀ (args : Array Value) (w : World), (callFunc F args).run Try.prog w = .ok (.enter F args) w)
    (HF : ∀ w', Below w.heap.size w w' → Calls Try.prog F (#[.agg #[.int .i64 pr, .int .i64 pc, .slice A n cp, .int .i64 m0, .int .i64 m1, .int .i64 m2, .int .i64 m3, .int .i64 m4, .int .i64 m5, .int .i64 m6, .int .i64 m7, .int .i64 m8, .int .i64 R, .int .i64 C, .int .i64 lim, .int .i64 mar], .int .i64 r, .int .i64 c] ++ cap) w' fun e w'' => ∃ v, e = .returned v ∧ Own w'' w'.heap.size v sl ∧ Below w'.heap.size w' w'')
    (hsl : sl.length ≤ 1000)
    (hw : w.heap[wp]? = some (.cells #[.func (.func F) #[] cap] 91 (0, 0))) (hs : w.heap[sp]? = some (.cells #[.int .i64 pr, .int .i64 pc, .slice A n cp, .int .i64 m0, .int .i64 m1, .int .i64 m2, .int .i64 m3, .int .i64 m4, .int .i64 m5, .int .i64 m6, .int .i64 m7, .int .i64 m8, .int .i64 R, .int .i64 C, .int .i64 lim, .int .i64 mar] 80 (0, 0))) :
    Calls Try.prog 88 #[.int .i64 r, .int .i64 c, .pointer (some ⟨wp, 0, none⟩), .pointer (some ⟨sp, 0, none⟩)] w fun e w' => e = .returned (.int .i64 (voteV sl)) ∧ Below w.heap.size w w' := by
  have HFH := Lib.hid HF
  obtain ⟨l0, -⟩ := blk1 hw
  obtain ⟨a0, a1, a2, a3, a4, a5, a6, a7, a8, a9, a10, a11, a12, a13, a14, a15, -⟩ := blk16 hs
  clear HF hw hs
  go_enter Try.func88, Try.ntmps88
  go_wp2_with fail
  with_reducible refine (HFH.out _ (Below.refl _ _)).mono ?_
  rintro e1 w1 ⟨v1, rfl, ho1, hb1⟩
  obtain ⟨A1, c1, rfl, hr1⟩ := ho1.shape
  have HR1 := Lib.hid hr1
  clear l0 a0 a1 a2 a3 a4 a5 a6 a7 a8 a9 a10 a11 a12 a13 a14 a15 ho1 hr1
  go_wp2_with (go_at_call 89; with_reducible refine (vote_any A1 sl.length c1 sl _ _ HR1.out hsl).mono ?_; rintro e2 w2 ⟨rfl, rfl⟩)
  go_ret
  exact ⟨rfl, hb1⟩
end Go.Proofs.Ytflpllmbpfdnjaa
