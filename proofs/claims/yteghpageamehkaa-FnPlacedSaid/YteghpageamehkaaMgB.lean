/-
  Contracts of chapter 15: TakeElements, the program and the reference.
-/
import Derived.Test.YteghpageamehkaaC14A
import Derived.Test.YteghpageamehkaaC15P
import Derived.Test.YteghpageamehkaaMgA
import Derived.BigQuiet
import Derived.Deep.RegionHeld3
import Derived.Test.YteghpageamehkaaC14E
import Derived.Test.YteghpageamehkaaC15L
namespace Go.Proofs.Yteghpageamehkaa
set_option linter.unusedSimpArgs false
open Go.RowKit

theorem atL_b {N : Nat} {xs : List Int} {ps : List (Int × Int)} (hal : allIn (-1) 1 xs = true) (hl : xs.length = N * N) (hin : ∀ p ∈ ps, 0 ≤ p.1 ∧ 0 ≤ p.2 ∧ p.1 < N ∧ p.2 < N) : ∀ k, k < (atL N xs ps).length → -1 ≤ nth (atL N xs ps) k ∧ nth (atL N xs ps) k ≤ 1 := by
  intro k hk
  rw [atL_len] at hk
  rw [atL_nth hk]
  exact allIn_nth hal (by rw [hl]; exact (idxP_lt (hin _ (nthP_mem hk))).1)
theorem shl1 {x c : Int} (hx : 0 ≤ x) (hx' : x < 256) (hc : 0 ≤ c) (hc' : c ≤ 1) : bits .or .i64 (x * 2) c = 2 * x + c := by
  obtain ⟨a, rfl⟩ := Int.eq_ofNat_of_zero_le hx
  have e := Nat.two_pow_add_eq_or_of_lt (i := 1) (b := 1) (by decide) a
  rw [show ((a : Int) * 2) = ((2 * a : Nat) : Int) by omega]
  rcases (by omega : c = 0 ∨ c = 1) with rfl | rfl
  · rw [show (0 : Int) = ((0 : Nat) : Int) from rfl, i64_or _ _ (by omega) (by decide), Nat.or_zero]; omega
  · rw [show (1 : Int) = ((1 : Nat) : Int) from rfl, i64_or _ _ (by omega) (by decide)]
    rw [Nat.pow_one] at e; rw [← e]; omega
theorem two_empty (w : World) : TwoI ((w.alloc (.cells #[] 2)).alloc (.cells #[] 2)) w.heap.size (.slice (some ⟨w.heap.size, 0, none⟩) 0 0) [] (.slice (some ⟨w.heap.size + 1, 0, none⟩) 0 0) [] := by
  refine ⟨?_, ?_, fun k h1 h2 => ?_⟩
  · have := World.ownsRow.alloc (World.ownsRow_made (e := 2) (size := 1) (base := w.heap.size) w #[] 0 (Nat.le_refl _) (by unfold maxLen; omega) rfl) (.cells #[] 2)
    simpa [Own] using this
  · have := World.ownsRow_made (e := 2) (size := 1) (base := w.heap.size) (w.alloc (.cells #[] 2)) #[] 0 (by simp) (by unfold maxLen; omega) rfl
    simpa [Own] using this
  · simp [Value.ownBlock] at h1 h2; omega
theorem Own.cap {w : World} {B g L c : Nat} {xs : List Int} (h : Own w B (.slice (some ⟨g, 0, none⟩) L c) xs) (hl : xs.length = L) : L ≤ c := by
  rcases h.2 with ⟨h', _⟩ | ⟨g', cap, cur, h', _, _, hn, _⟩
  · simp at h'
  · simp only [Value.slice.injEq, Option.some.injEq, Addr.mk.injEq, and_true] at h'
    obtain ⟨-, -, rfl⟩ := h'
    omega
set_option maxRecDepth 20000 in
set_option maxHeartbeats 4000000 in
theorem takeElements_any (N b o cp K : Nat) (xs : List Int) (w : World) (B : Nat) (hN : 17 ≤ N ∧ N ≤ 41 ∧ N % 4 = 1) (hK : 1 ≤ K ∧ K ≤ 8) (hr : RI w B (some ⟨b, o, none⟩) (N * N) xs) (hB : B ≤ w.heap.size) (hl : xs.length = N * N) (hal : allIn (-1) 1 xs = true) :
    Calls Try.prog 73 #[.agg #[.int .i64 N, .int .i64 N, .slice (some ⟨b, o, none⟩) (N * N) cp], .int .i64 K] w fun e w' =>
      ∃ v1 v2, e = .returned (.tuple #[v1, v2]) ∧ TwoI w' w.heap.size v1 (elL (atL N xs (dataL N)) K ((dataL N).length / K)) v2 (unL (atL N xs (dataL N)) K ((dataL N).length / K)) ∧ Below w.heap.size w w' := by
  obtain ⟨i0, hi⟩ := info_own' info_i64s
  have HI := Lib.hid (And.intro i0.bytes.le_refl hi)
  have HR := Lib.hid (hr.more hB)
  have hN1 := hN.1
  have hN2 := hN.2.1
  have hK1 := hK.1
  have hK2 := hK.2
  have HD := Lib.hid (fun w => dataPlaces_any N w hN)
  have HIN := Lib.hid (data_in4 hN)
  have HB := Lib.hid (atL_b hal hl (data_in4 hN))
  have hMx := dataL_le hN2
  have hM0 := data_pos hN
  have hMl := atL_len N xs (dataL N)
  obtain ⟨ps, hps⟩ : ∃ ps, dataL N = ps := ⟨_, rfl⟩
  have HD : Hid (∀ w, Calls Try.prog 54 #[.int .i64 N] w fun e w' => ∃ v, e = .returned v ∧ OwnP w' w.heap.size v ps ∧ Below w.heap.size w w') := Lib.hid (by rw [← hps]; exact HD.out)
  rw [hps] at HIN HB hMx hM0 hMl ⊢
  obtain ⟨M, hMM⟩ : ∃ M, ps.length = M := ⟨_, rfl⟩
  have HLP := Lib.hid hMM
  rw [hMM] at hMx hM0 hMl ⊢
  have HC := Lib.hid (fun (g cq : Nat) (w : World) (B : Nat) (hr : RI w B (some ⟨b, o, none⟩) (N * N) xs) (hp : RP w B g ps) (hB : B ≤ w.heap.size) => cellsAt_any N b o cp g cq M xs ps w B hr hp hB HLP.out (by omega) HIN.out hN2)
  obtain ⟨cs, hcs⟩ : ∃ cs, atL N xs ps = cs := ⟨_, rfl⟩
  rw [hcs] at HC HB hMl ⊢
  have HCL := Lib.hid hMl
  have HBB : Hid (∀ a j, a + j ≤ M → j ≤ 8 → -1 ≤ tkV cs a j ∧ tkV cs a j < 256) := Lib.hid (fun a j h1 h2 => tkV_256 HB.out (by rw [HCL.out]; exact h1) h2)
  obtain ⟨m, hm⟩ : ∃ m, M / K = m := ⟨_, rfl⟩
  have hmK : m * K ≤ M := by rw [← hm]; exact Nat.div_mul_le_self M K
  have hmK2 : M < m * K + K := by
    have := Nat.lt_div_mul_add (a := M) (b := K) (by omega)
    rw [hm] at this; exact this
  rw [hm]
  have HMK := Lib.hid (And.intro hmK hmK2)
  obtain ⟨W1, hW1⟩ : ∃ W1, W1 = w.alloc (.cells #[.int .i64 (N : Int), .int .i64 (N : Int), .slice (some ⟨b, o, none⟩) (N * N) cp] 37) := ⟨_, rfl⟩
  have HX1 : Hid (W1.heap[w.heap.size]? = some (.cells #[.int .i64 (N : Int), .int .i64 (N : Int), .slice (some ⟨b, o, none⟩) (N * N) cp] 37 (0, 0))) := Lib.hid (by rw [hW1]; exact heap_alloc_new _ _)
  have HW : Hid (Below w.heap.size w W1) := Lib.hid (by rw [hW1]; exact (Below.refl _ _).alloc (Nat.le_refl _) _)
  have hws : w.heap.size < W1.heap.size := by rw [hW1]; simp
  have HR1 := Lib.hid (HR.out.below HW.out)
  clear hps hMM hm hcs hMl hmK hmK2 hi hr hal hl hN hB
  go_enter Try.func73, Try.ntmps73
  go_wp2_with fail
  rw [← hW1]
  clear hW1
  obtain ⟨y0, y1, y2, -⟩ := blk3 HX1.out
  go_region_held3 (fun w' => w'.cell? ⟨w.heap.size, 0, none⟩ = some (.int .i64 (N : Int)) ∧ w'.cell? ⟨w.heap.size, 1, none⟩ = some (.int .i64 (N : Int)) ∧ w'.cell? ⟨w.heap.size, 2, none⟩ = some (.slice (some ⟨b, o, none⟩) (N * N) cp))
      (first | (exact ⟨q0, q1, q2⟩) | (exact ⟨y0, y1, y2⟩) | go_keep)
      (first
        | (go_at_call 54; with_reducible refine (HD.out _).mono ?_; rintro e3 w3 ⟨v3, rfl, ho3, hb3⟩; have hD3 : Below W1.heap.size W1 w3 := below_then (by (repeat (first | (with_reducible assumption) | (with_reducible exact Below.refl _ _) | (with_reducible refine below_drewN' ?_ _) | (with_reducible refine Below.drew ?_) | ((with_reducible refine Below.alloc ?_ ?_ _); rotate_left; focus (first | (simp; done) | (simp; omega) | omega)) | ((with_reducible refine Below.setCell ?_ ?_ _); rotate_left; focus (first | (simp; done) | (simp; omega) | omega))))) (by first | omega | (simp; done) | (simp; omega)) hb3; have hsz3 := hD3.size; obtain ⟨q0, q1, q2, -⟩ := blk3 ((hD3.block w.heap.size hws).trans HX1.out); obtain ⟨g3, c3, rfl, -, hgw3, -⟩ := ho3.cells (by rw [HLP.out]; exact hM0); rw [HLP.out] at ho3 ⊢; have HP3 := Lib.hid (RP.of ho3 HLP.out hM0); have HD3 := Lib.hid hD3; clear hb3 ho3)
        | (go_at_call 88; with_reducible refine (HC.out _ _ _ _ (RI.below (B := w3.heap.size) ((HR1.out.below (HD3.out.mono (Nat.le_of_lt hws))).more (by omega)) (by (repeat (first | (with_reducible assumption) | (with_reducible exact Below.refl _ _) | (with_reducible refine below_drewN' ?_ _) | (with_reducible refine Below.drew ?_) | ((with_reducible refine Below.alloc ?_ ?_ _); rotate_left; focus (first | (simp; done) | (simp; omega) | omega)) | ((with_reducible refine Below.setCell ?_ ?_ _); rotate_left; focus (first | (simp; done) | (simp; omega) | omega)))))) ((HP3.out).below (B' := w3.heap.size) (by (repeat (first | (with_reducible assumption) | (with_reducible exact Below.refl _ _) | (with_reducible refine below_drewN' ?_ _) | (with_reducible refine Below.drew ?_) | ((with_reducible refine Below.alloc ?_ ?_ _); rotate_left; focus (first | (simp; done) | (simp; omega) | omega)) | ((with_reducible refine Below.setCell ?_ ?_ _); rotate_left; focus (first | (simp; done) | (simp; omega) | omega))))) (Nat.le_refl _)) (by first | omega | (simp; done) | (simp; omega))).mono ?_; rintro e4 w4 ⟨v4, rfl, ho4, hb4⟩; have hD4 : Below W1.heap.size W1 w4 := below_then (by (repeat (first | (with_reducible assumption) | (with_reducible exact Below.refl _ _) | (with_reducible refine below_drewN' ?_ _) | (with_reducible refine Below.drew ?_) | ((with_reducible refine Below.alloc ?_ ?_ _); rotate_left; focus (first | (simp; done) | (simp; omega) | omega)) | ((with_reducible refine Below.setCell ?_ ?_ _); rotate_left; focus (first | (simp; done) | (simp; omega) | omega))))) (by first | omega | (simp; done) | (simp; omega)) hb4; have hsz4 := hD4.size; obtain ⟨q0, q1, q2, -⟩ := blk3 ((hD4.block w.heap.size hws).trans HX1.out); have HO4 := Lib.hid ho4; clear ho4 hb4))
  have HW4 := Lib.hid (HW.out.trans (hD4.mono (Nat.le_of_lt hws)))
  obtain ⟨g, c4, rfl, -, hg4, hc4, -⟩ := HO4.out.row (by rw [HCL.out]; exact hM0)
  have HC4 : Hid (∀ k, k < M → w4.cell? ⟨g, k, none⟩ = some (.int .i64 (nth cs k))) := Lib.hid (fun k hk => hc4 k (by rw [HCL.out]; exact hk))
  have hcap := HO4.out
  rw [HCL.out] at hcap ⊢
  have hcap := hcap.cap HCL.out
  have HE := Lib.hid (two_empty w4)
  have HBE : Hid (Below w4.heap.size w4 ((w4.alloc (.cells #[] 2)).alloc (.cells #[] 2))) := Lib.hid (by go_grown)
  clear hc4 q0 q1 q2 y0 y1 y2 HO4 hD4 hD3
  have hw4 : w.heap.size ≤ w4.heap.size := by omega
  go_wp2_with fail
  go_loopw [7, 8, 9] (fun s1 s2 at' wr => ∃ e : Nat, e ≤ m ∧ at' = .int .i64 ((e * K : Nat) : Int) ∧ Hid (TwoI wr w4.heap.size s1 (elL cs K e) s2 (unL cs K e)) ∧ Hid (Below w4.heap.size w4 wr))
    (fun _ _ q _ => M - (intOf q).toNat)
  case atStart => exact ⟨0, Nat.zero_le _, by simp, HE, HBE⟩
  case round =>
    obtain ⟨e, he, rfl, hT, hbel⟩ := hrel
    obtain ⟨a, ha⟩ : ∃ a, e * K = a := ⟨_, rfl⟩
    have ha2 : (e + 1) * K = a + K := by rw [Nat.succ_mul, ha]
    have HA2 := Lib.hid ha2
    rw [ha]
    by_cases hlt : e < m
    · have haK : a + K ≤ M := by
        have h1 := Nat.mul_le_mul_right K (show e + 1 ≤ m by omega)
        have h2 := HMK.out.1
        omega
      have hal : a ≤ M := by omega
      have hAK : (a : Int) + K ≤ M := by omega
      have hAc : 0 ≤ (a : Int) + K ∧ (a : Int) + K ≤ c4 := by omega
      have hst1 := Lib.hid (show elL cs K (e + 1) = elL cs K e ++ [max 0 (tkV cs a K)] by rw [← ha]; rfl)
      have hst2 := Lib.hid (show unL cs K (e + 1) = bif decide (tkV cs a K < 0) then unL cs K e ++ [(e : Int)] else unL cs K e by rw [← ha]; rfl)
      have hl1 := elL_len cs K e
      have hl2 := unL_len cs K e
      have hem : e ≤ 1640 := by
        have h1 := Nat.le_mul_of_pos_right e (show 0 < K by omega)
        omega
      generalize elL cs K e = L1 at hT hst1 hl1
      generalize unL cs K e = L2 at hT hst2 hl2
      obtain ⟨A1, c1, rfl, -⟩ := hT.out.1.shape
      rw [hl1] at hT ⊢
      have hl1' : L1.length ≤ 1640 := by omega
      have HL1 := Lib.hid hl1
      clear ha ha2 hl1
      have hgw4 : g < w4.heap.size := hg4
      go_wp2_with fail
      go_loopw [10, 12, 36] (fun x q1 q wr' => ∃ j : Nat, j ≤ K ∧ q = .int .i64 j ∧ x = .int .i64 (tkV cs a j) ∧ wr' = wr)
        (fun _ _ q _ => K - (intOf q).toNat)
      case atStart => exact ⟨0, Nat.zero_le _, rfl, rfl, rfl⟩
      case round =>
        obtain ⟨j, hj, rfl, rfl, rfl⟩ := hrel
        by_cases hjl : j < K
        · have hck := (hbel.out.cell (p := ⟨g, a + j, none⟩) hgw4).trans (HC4.out (a + j) (by omega))
          have hcb := HB.out (a + j) (by rw [HCL.out]; omega)
          have hxb := HBB.out a j (by omega) (by omega)
          have hstj := Lib.hid (show tkV cs a (j + 1) = tkS (tkV cs a j) (nth cs (a + j)) from rfl)
          generalize nth cs (a + j) = c at hck hcb hstj
          generalize tkV cs a j = x at hxb hstj ⊢
          by_cases hc0 : c < 0
          · have hv : Hid (tkV cs a (j + 1) = -1) := Lib.hid (by rw [hstj.out]; simp [tkS, hc0])
            go_wp2_with fail
            go_roundw
            case rel => exact ⟨j + 1, by omega, by go_num, by rw [hv.out], by first | rfl | trivial⟩
            case measure => simp [intOf]; omega
          · by_cases hx0 : x < 0
            · have hv : Hid (tkV cs a (j + 1) = -1) := Lib.hid (by rw [hstj.out]; simp [tkS, hx0])
              go_wp2_with fail
              go_roundw
              case rel => exact ⟨j + 1, by omega, by go_num, by rw [hv.out], by first | rfl | trivial⟩
              case measure => simp [intOf]; omega
            · have hv : Hid (tkV cs a (j + 1) = 2 * x + c) := Lib.hid (by rw [hstj.out]; simp [tkS, hc0, hx0])
              have hor := shl1 (x := x) (c := c) (by omega) (by omega) (by omega) (by omega)
              go_wp2_with fail
              go_roundw
              case rel => exact ⟨j + 1, by omega, by go_num, by rw [hv.out], by first | rfl | trivial⟩
              case measure => simp [intOf]; omega
        · obtain rfl : j = K := by omega
          obtain ⟨X, hX⟩ : ∃ X, tkV cs a j = X := ⟨_, rfl⟩
          rw [hX] at hst1 hst2 ⊢
          clear hX
          by_cases hX0 : X < 0
          · have e1 : Hid (elL cs j (e + 1) = L1 ++ [0]) := Lib.hid (by rw [hst1.out, show max 0 X = 0 by omega])
            have e2 : Hid (unL cs j (e + 1) = L2 ++ [(e : Int)]) := Lib.hid (by rw [hst2.out, decide_eq_true hX0]; rfl)
            go_wp2_with first | ((at_builtin; refine wpList_append_own_at _ rfl _ _ 35 rfl (w4.heap.size) 2 i0 (.int .i64 0) 1 8 Try.underlying35 HI.out.2.1 HI.out.2.2.1 HI.out.2.2.2.1 HI.out.2.2.2.2 rfl (by decide) _ _ _ rfl (Own.alloc (hT.out.2.1) _) ⟨wr.heap.size, 0, none⟩ 1 1 [.int .i64 ((e : Int))] rfl rfl (cell_one_new _ _ _) (one_ok _) (own_max (hT.out.2.1) (by omega)) (own_bytes (hT.out.2.1) (by omega)) (own_base (hbel.out.size)) ?_; intro va wa howna hga _ hata; have hoa := Own.snoc howna; clear howna); have hT1 := Lib.hid (hT.out.symm.first hoa hga hata).symm; have hB1 := Lib.hid (Own.below_grown hT.out.2.1 hbel.out hbel.out.size hga); clear hoa hga hata) | (at_builtin; refine wpList_append_own_at _ rfl _ _ 35 rfl (w4.heap.size) 2 i0 (.int .i64 0) 1 8 Try.underlying35 HI.out.2.1 HI.out.2.2.1 HI.out.2.2.2.1 HI.out.2.2.2.2 rfl (by decide) _ _ _ rfl (Own.alloc (hT1.out.1) _) ⟨wa.heap.size, 0, none⟩ 1 1 [.int .i64 (0)] rfl rfl (cell_one_new _ _ _) (one_ok _) (own_max (hT1.out.1) (by omega)) (own_bytes (hT1.out.1) (by omega)) (own_base (hB1.out.size)) ?_; intro vb wb hownb hgb _ hatb; have hob := Own.snoc hownb; clear hownb)
            have hT2 := Lib.hid (hT1.out.first hob hgb hatb)
            have hB2 := Lib.hid (Own.below_grown hT1.out.1 hB1.out hB1.out.size hgb)
            clear hob hgb hatb
            go_wp2_with fail
            go_roundw
            case rel => exact ⟨e + 1, by omega, by rw [HA2.out]; go_num, Lib.hid (by rw [e1.out, e2.out]; exact hT2.out), hB2⟩
            case measure => simp [intOf]; omega
          · have e1 : Hid (elL cs j (e + 1) = L1 ++ [X]) := Lib.hid (by rw [hst1.out, show max 0 X = X by omega])
            have e2 : Hid (unL cs j (e + 1) = L2) := Lib.hid (by rw [hst2.out, decide_eq_false hX0]; rfl)
            go_wp2_with (at_builtin; refine wpList_append_own_at _ rfl _ _ 35 rfl (w4.heap.size) 2 i0 (.int .i64 0) 1 8 Try.underlying35 HI.out.2.1 HI.out.2.2.1 HI.out.2.2.2.1 HI.out.2.2.2.2 rfl (by decide) _ _ _ rfl (Own.alloc (hT.out.1) _) ⟨wr.heap.size, 0, none⟩ 1 1 [.int .i64 (X)] rfl rfl (cell_one_new _ _ _) (one_ok _) (own_max (hT.out.1) (by omega)) (own_bytes (hT.out.1) (by omega)) (own_base (hbel.out.size)) ?_; intro vb wb hownb hgb _ hatb; have hob := Own.snoc hownb; clear hownb)
            have hT2 := Lib.hid (hT.out.first hob hgb hatb)
            have hB2 := Lib.hid (Own.below_grown hT.out.1 hbel.out hbel.out.size hgb)
            clear hob hgb hatb
            go_wp2_with fail
            go_roundw
            case rel => exact ⟨e + 1, by omega, by rw [HA2.out]; go_num, Lib.hid (by rw [e1.out, e2.out]; exact hT2.out), hB2⟩
            case measure => simp [intOf]; omega
    · obtain rfl : e = m := by omega
      have haM : ¬ (a : Int) + K ≤ M := by
        have h2 := HMK.out.2
        omega
      have hal : a ≤ M := by have h2 := HMK.out.1; omega
      go_wp2_with fail
      first | go_ret | go_returns
      exact ⟨_, _, rfl, hT.out.more hw4, HW4.out.trans (hbel.out.mono hw4)⟩
end Go.Proofs.Yteghpageamehkaa
namespace Go.Proofs.Yteghpageamehkaa
set_option linter.unusedSimpArgs false
open Go.RowKit

set_option maxRecDepth 20000 in
set_option maxHeartbeats 4000000 in
theorem l15Take_any (N b o cp K : Nat) (xs : List Int) (w : World) (B : Nat) (hN : 17 ≤ N ∧ N ≤ 41 ∧ N % 4 = 1) (hK : 1 ≤ K ∧ K ≤ 8) (hr : RI w B (some ⟨b, o, none⟩) (N * N) xs) (hB : B ≤ w.heap.size) (hl : xs.length = N * N) (hal : allIn (-1) 1 xs = true) :
    Calls Try.prog 71 #[.agg #[.int .i64 N, .int .i64 N, .slice (some ⟨b, o, none⟩) (N * N) cp], .int .i64 K] w fun e w' =>
      ∃ v1 v2, e = .returned (.tuple #[v1, v2]) ∧ TwoI w' w.heap.size v1 (elL (atL N xs (dataL N)) K ((dataL N).length / K)) v2 (unL (atL N xs (dataL N)) K ((dataL N).length / K)) ∧ Below w.heap.size w w' := by
  obtain ⟨i0, hi⟩ := info_own' info_i64s
  have HI := Lib.hid (And.intro i0.bytes.le_refl hi)
  have HR := Lib.hid (hr.more hB)
  have hN1 := hN.1
  have hN2 := hN.2.1
  have hK1 := hK.1
  have hK2 := hK.2
  have HD := Lib.hid (fun w => l15Places_any N w hN)
  have HIN := Lib.hid (data_in4 hN)
  have HB := Lib.hid (atL_b hal hl (data_in4 hN))
  have hMx := dataL_le hN2
  have hM0 := data_pos hN
  have hMl := atL_len N xs (dataL N)
  obtain ⟨ps, hps⟩ : ∃ ps, dataL N = ps := ⟨_, rfl⟩
  have HD : Hid (∀ w, Calls Try.prog 59 #[.int .i64 N] w fun e w' => ∃ v, e = .returned v ∧ OwnP w' w.heap.size v ps ∧ Below w.heap.size w w') := Lib.hid (by rw [← hps]; exact HD.out)
  rw [hps] at HIN HB hMx hM0 hMl ⊢
  obtain ⟨M, hMM⟩ : ∃ M, ps.length = M := ⟨_, rfl⟩
  have HLP := Lib.hid hMM
  rw [hMM] at hMx hM0 hMl ⊢
  have HAT := Lib.hid (fun (k : Nat) (h : k < M) => atL_nth (N := N) (xs := xs) (ps := ps) (k := k) (by rw [HLP.out]; exact h))
  obtain ⟨cs, hcs⟩ : ∃ cs, atL N xs ps = cs := ⟨_, rfl⟩
  rw [hcs] at HAT HB hMl ⊢
  have HCL := Lib.hid hMl
  have HBB : Hid (∀ a j, a + j ≤ M → j ≤ 8 → -1 ≤ tkV cs a j ∧ tkV cs a j < 256) := Lib.hid (fun a j h1 h2 => tkV_256 HB.out (by rw [HCL.out]; exact h1) h2)
  obtain ⟨m, hm⟩ : ∃ m, M / K = m := ⟨_, rfl⟩
  have hmK : m * K ≤ M := by rw [← hm]; exact Nat.div_mul_le_self M K
  have hmK2 : M < m * K + K := by
    have := Nat.lt_div_mul_add (a := M) (b := K) (by omega)
    rw [hm] at this; exact this
  rw [hm]
  have HMK := Lib.hid (And.intro hmK hmK2)
  obtain ⟨W1, hW1⟩ : ∃ W1, W1 = w.alloc (.cells #[.int .i64 (N : Int), .int .i64 (N : Int), .slice (some ⟨b, o, none⟩) (N * N) cp] 37) := ⟨_, rfl⟩
  have HX1 : Hid (W1.heap[w.heap.size]? = some (.cells #[.int .i64 (N : Int), .int .i64 (N : Int), .slice (some ⟨b, o, none⟩) (N * N) cp] 37 (0, 0))) := Lib.hid (by rw [hW1]; exact heap_alloc_new _ _)
  have HW : Hid (Below w.heap.size w W1) := Lib.hid (by rw [hW1]; exact (Below.refl _ _).alloc (Nat.le_refl _) _)
  have hNN : N * N ≤ 1681 := Nat.mul_le_mul hN2 hN2
  have hws : w.heap.size < W1.heap.size := by rw [hW1]; simp
  have HR1 := Lib.hid (HR.out.below HW.out)
  clear hps hMM hm hcs hMl hmK hmK2 hi hr hal hN hB hl
  go_enter Try.func71, Try.ntmps71
  go_wp2_with fail
  rw [← hW1]
  clear hW1
  obtain ⟨y0, y1, y2, -⟩ := blk3 HX1.out
  go_wp2_with fail
  (go_at_call 59; with_reducible refine (HD.out _).mono ?_; rintro e3 w3 ⟨v3, rfl, ho3, hb3⟩)
  have hsz3 := hb3.size
  obtain ⟨g, c3, rfl, -, hg3, -⟩ := ho3.cells (by rw [HLP.out]; exact hM0)
  rw [HLP.out] at ho3 ⊢
  have HP3 := Lib.hid (RP.of ho3 HLP.out hM0)
  have HX3 := Lib.hid ((hb3.block w.heap.size hws).trans HX1.out)
  have HW4 := Lib.hid (HW.out.trans (hb3.mono (Nat.le_of_lt hws)))
  have HR3 := Lib.hid (HR1.out.below (hb3.mono (Nat.le_of_lt hws)))
  have HE := Lib.hid (two_empty w3)
  have HBE : Hid (Below w3.heap.size w3 ((w3.alloc (.cells #[] 2)).alloc (.cells #[] 2))) := Lib.hid (by go_grown)
  have hw4 : w.heap.size ≤ w3.heap.size := by omega
  have hw5 : w.heap.size < w3.heap.size := by omega
  clear y0 y1 y2 ho3 hb3
  go_wp2_with fail
  go_loopw [7, 8, 9] (fun s1 s2 at' wr => ∃ e : Nat, e ≤ m ∧ at' = .int .i64 ((e * K : Nat) : Int) ∧ Hid (TwoI wr w3.heap.size s1 (elL cs K e) s2 (unL cs K e)) ∧ Hid (Below w3.heap.size w3 wr))
    (fun _ _ q _ => M - (intOf q).toNat)
  case atStart => exact ⟨0, Nat.zero_le _, by simp, HE, HBE⟩
  case round =>
    obtain ⟨e, he, rfl, hT, hbel⟩ := hrel
    obtain ⟨a, ha⟩ : ∃ a, e * K = a := ⟨_, rfl⟩
    have ha2 : (e + 1) * K = a + K := by rw [Nat.succ_mul, ha]
    have HA2 := Lib.hid ha2
    rw [ha]
    by_cases hlt : e < m
    · have haK : a + K ≤ M := by
        have h1 := Nat.mul_le_mul_right K (show e + 1 ≤ m by omega)
        have h2 := HMK.out.1
        omega
      have hal : a ≤ M := by omega
      have hAK : (a : Int) + K ≤ M := by omega
      have hst1 := Lib.hid (show elL cs K (e + 1) = elL cs K e ++ [max 0 (tkV cs a K)] by rw [← ha]; rfl)
      have hst2 := Lib.hid (show unL cs K (e + 1) = bif decide (tkV cs a K < 0) then unL cs K e ++ [(e : Int)] else unL cs K e by rw [← ha]; rfl)
      have hl1 := elL_len cs K e
      have hl2 := unL_len cs K e
      have hem : e ≤ 1640 := by
        have h1 := Nat.le_mul_of_pos_right e (show 0 < K by omega)
        omega
      have hqe : (a : Int) / K = (e : Int) := by
        rw [← ha, ← Int.natCast_ediv, Nat.mul_div_cancel _ (by omega)]
      have hqw : IntKind.i64.wrap ((a : Int) / K) = (e : Int) := by rw [hqe]; exact i64_in (by omega)
      have HQW := Lib.hid hqw
      have hK0 : ¬ K = 0 := by omega
      generalize elL cs K e = L1 at hT hst1 hl1
      generalize unL cs K e = L2 at hT hst2 hl2
      have hl1' : L1.length ≤ 1640 := by omega
      clear ha ha2 hl1 hqe hqw
      go_wp2_with fail
      go_loopw [10, 11, 12] (fun x q q1 wr' => ∃ j : Nat, j ≤ K ∧ q = .int .i64 ((a : Int) + j) ∧ x = .int .i64 (tkV cs a j) ∧ Hid (∃ n, wr' = wr.drewN n))
        (fun _ q _ _ => a + K - (intOf q).toNat)
      case atStart => exact ⟨0, Nat.zero_le _, by simp, rfl, Lib.hid ⟨0, rfl⟩⟩
      case round =>
        rename_i wr2
        obtain ⟨j, hj, rfl, rfl, hdr⟩ := hrel
        obtain ⟨n0, rfl⟩ := hdr.out
        clear hdr
        by_cases hjl : j < K
        · have hk2 : a + j < ps.length := by rw [HLP.out]; omega
          obtain ⟨hia, hib⟩ := idxP_lt (HIN.out _ (nthP_mem hk2))
          have hic := (HIN.out _ (nthP_mem hk2))
          have hat := HAT.out (a + j) (by omega)
          obtain ⟨b', o', e', hb', hc'⟩ := (HR3.out.below (hbel.out.mono hw4)).cells (by omega)
          simp only [Option.some.injEq, Addr.mk.injEq, and_true] at e'
          obtain ⟨rfl, rfl⟩ := e'
          have hck := hc' _ hia
          obtain ⟨-, -, hpc⟩ := HP3.out.below hbel.out (Nat.le_refl _)
          obtain ⟨p0, p1⟩ := hpc (a + j) hk2
          have hcb := HB.out (a + j) (by rw [HCL.out]; omega)
          have hxb := HBB.out a j (by omega) (by omega)
          have hstj := Lib.hid (show tkV cs a (j + 1) = tkS (tkV cs a j) (nth cs (a + j)) from rfl)
          obtain ⟨z0, z1, z2, -⟩ := blk3 ((hbel.out.block w.heap.size hw5).trans HX3.out)
          rw [hat] at hcb hstj
          generalize nthP ps (a + j) = p at hia hib hic p0 p1 hcb hstj hck
          obtain ⟨pr, pc⟩ := p
          simp only at hib hic p0 p1
          generalize idxP N (pr, pc) = X at hia hib hcb hstj hck
          have wA1 : IntKind.i64.wrap (pr * N) = pr * N := i64_in (by omega)
          have wA2 : IntKind.i64.wrap (pr * N + pc) = X := by rw [hib]; exact i64_in (by omega)
          have wA3 : IntKind.i64.wrap (X : Int) = X := i64_in (by omega)
          have vA : (X : Int) < (N : Int) * N := by
            have : (X : Int) < ((N * N : Nat) : Int) := by omega
            simpa using this
          generalize nth xs X = c at hck hcb hstj
          generalize tkV cs a j = x at hxb hstj ⊢
          have hsr := hbel.out.size
          have hwz : w.heap.size < wr.heap.size := by omega
          have hbz : b < wr.heap.size := by omega
          have hgz : g < wr.heap.size := by omega
          obtain ⟨J, hJ⟩ : ∃ J, a + j = J := ⟨_, rfl⟩
          have hJi : (a : Int) + j = (J : Int) := by rw [← hJ]; simp
          have HJ : Hid ((a : Int) + ((j + 1 : Nat) : Int) = (J : Int) + 1) := Lib.hid (by rw [← hJi]; simp; omega)
          have hJK : J < a + K := by omega
          have hJK' : (J : Int) < (a : Int) + K := by omega
          have hJM : J < M := by omega
          rw [hJ] at p0 p1
          rw [hJi]
          clear hpc hk2 hc' hat hJ hJi
          by_cases hc0 : c < 0
          · have hv : Hid (tkV cs a (j + 1) = -1) := Lib.hid (by rw [hstj.out]; simp [tkS, hc0])
            go_wp2_with fail
            go_quiet (fail)
            go_wp2_with fail
            go_roundw
            case rel => exact ⟨j + 1, by omega, by rw [HJ.out], by rw [hv.out], Lib.hid ⟨_, rfl⟩⟩
            case measure => simp [intOf]; omega
          · by_cases hx0 : x < 0
            · have hv : Hid (tkV cs a (j + 1) = -1) := Lib.hid (by rw [hstj.out]; simp [tkS, hx0])
              go_wp2_with fail
              go_quiet (fail)
              go_wp2_with fail
              go_roundw
              case rel => exact ⟨j + 1, by omega, by rw [HJ.out], by rw [hv.out], Lib.hid ⟨_, rfl⟩⟩
              case measure => simp [intOf]; omega
            · have hc1 : 0 ≤ c := by omega
              have hx1 : 0 ≤ x := by omega
              have hv : Hid (tkV cs a (j + 1) = 2 * x + c) := Lib.hid (by rw [hstj.out]; simp [tkS, hc0, hx0])
              go_wp2_with fail
              go_quiet (fail)
              go_wp2_with fail
              go_roundw
              case rel => exact ⟨j + 1, by omega, by rw [HJ.out], by rw [hv.out], Lib.hid ⟨_, rfl⟩⟩
              case measure => simp [intOf]; omega
        · obtain rfl : j = K := by omega
          obtain ⟨X, hX⟩ : ∃ X, tkV cs a j = X := ⟨_, rfl⟩
          rw [hX] at hst1 hst2 ⊢
          clear hX
          have hqw := HQW.out
          have hTd : Hid (TwoI (wr.drewN n0) w3.heap.size _ L1 _ L2) := Lib.hid (hT.out.keep (below_drewN' (Below.refl _ _) n0))
          have hBd : Hid (Below w3.heap.size w3 (wr.drewN n0)) := Lib.hid (below_drewN' hbel.out n0)
          generalize wr.drewN n0 = wr at hTd hBd ⊢
          by_cases hX0 : X < 0
          · have hmx : max 0 X = 0 := by omega
            have e1 : Hid (elL cs j (e + 1) = L1 ++ [0]) := Lib.hid (by rw [hst1.out, show max 0 X = 0 by omega])
            have e2 : Hid (unL cs j (e + 1) = L2 ++ [(e : Int)]) := Lib.hid (by rw [hst2.out, decide_eq_true hX0]; rfl)
            go_wp2_with first | ((at_builtin; refine wpList_append_own_at _ rfl _ _ 35 rfl (w3.heap.size) 2 i0 (.int .i64 0) 1 8 Try.underlying35 HI.out.2.1 HI.out.2.2.1 HI.out.2.2.2.1 HI.out.2.2.2.2 rfl (by decide) _ _ _ rfl (Own.alloc (hTd.out.2.1) _) ⟨wr.heap.size, 0, none⟩ 1 1 [.int .i64 ((e : Int))] rfl rfl (cell_one_new _ _ _) (one_ok _) (own_max (hTd.out.2.1) (by omega)) (own_bytes (hTd.out.2.1) (by omega)) (own_base (hBd.out.size)) ?_; intro va wa howna hga _ hata; have hoa := Own.snoc howna; clear howna); have hT1 := Lib.hid (hTd.out.symm.first hoa hga hata).symm; have hB1 := Lib.hid (Own.below_grown hTd.out.2.1 hBd.out hBd.out.size hga); clear hoa hga hata) | (at_builtin; refine wpList_append_own_at _ rfl _ _ 35 rfl (w3.heap.size) 2 i0 (.int .i64 0) 1 8 Try.underlying35 HI.out.2.1 HI.out.2.2.1 HI.out.2.2.2.1 HI.out.2.2.2.2 rfl (by decide) _ _ _ rfl (Own.alloc (hT1.out.1) _) ⟨wa.heap.size, 0, none⟩ 1 1 [.int .i64 (0)] rfl rfl (cell_one_new _ _ _) (one_ok _) (own_max (hT1.out.1) (by omega)) (own_bytes (hT1.out.1) (by omega)) (own_base (hB1.out.size)) ?_; intro vb wb hownb hgb _ hatb; have hob := Own.snoc hownb; clear hownb)
            have hT2 := Lib.hid (hT1.out.first hob hgb hatb)
            have hB2 := Lib.hid (Own.below_grown hT1.out.1 hB1.out hB1.out.size hgb)
            clear hob hgb hatb
            go_wp2_with fail
            go_roundw
            case rel => exact ⟨e + 1, by omega, by rw [HA2.out]; go_num, Lib.hid (by rw [e1.out, e2.out]; exact hT2.out), hB2⟩
            case measure => simp [intOf]; omega
          · have hsp : X = 0 ∨ 0 < X := by omega
            have e1 : Hid (elL cs j (e + 1) = L1 ++ [X]) := Lib.hid (by rw [hst1.out, show max 0 X = X by omega])
            have e2 : Hid (unL cs j (e + 1) = L2) := Lib.hid (by rw [hst2.out, decide_eq_false hX0]; rfl)
            rcases hsp with rfl | hX1
            · go_wp2_with (at_builtin; refine wpList_append_own_at _ rfl _ _ 35 rfl (w3.heap.size) 2 i0 (.int .i64 0) 1 8 Try.underlying35 HI.out.2.1 HI.out.2.2.1 HI.out.2.2.2.1 HI.out.2.2.2.2 rfl (by decide) _ _ _ rfl (Own.alloc (hTd.out.1) _) ⟨wr.heap.size, 0, none⟩ 1 1 [.int .i64 (0)] rfl rfl (cell_one_new _ _ _) (one_ok _) (own_max (hTd.out.1) (by omega)) (own_bytes (hTd.out.1) (by omega)) (own_base (hBd.out.size)) ?_; intro vb wb hownb hgb _ hatb; have hob := Own.snoc hownb; clear hownb)
              have hT2 := Lib.hid (hTd.out.first hob hgb hatb)
              have hB2 := Lib.hid (Own.below_grown hTd.out.1 hBd.out hBd.out.size hgb)
              clear hob hgb hatb
              go_wp2_with fail
              go_roundw
              case rel => exact ⟨e + 1, by omega, by rw [HA2.out]; go_num, Lib.hid (by rw [e1.out, e2.out]; exact hT2.out), hB2⟩
              case measure => simp [intOf]; omega
            · go_wp2_with (at_builtin; refine wpList_append_own_at _ rfl _ _ 35 rfl (w3.heap.size) 2 i0 (.int .i64 0) 1 8 Try.underlying35 HI.out.2.1 HI.out.2.2.1 HI.out.2.2.2.1 HI.out.2.2.2.2 rfl (by decide) _ _ _ rfl (Own.alloc (hTd.out.1) _) ⟨wr.heap.size, 0, none⟩ 1 1 [.int .i64 (X)] rfl rfl (cell_one_new _ _ _) (one_ok _) (own_max (hTd.out.1) (by omega)) (own_bytes (hTd.out.1) (by omega)) (own_base (hBd.out.size)) ?_; intro vb wb hownb hgb _ hatb; have hob := Own.snoc hownb; clear hownb)
              have hT2 := Lib.hid (hTd.out.first hob hgb hatb)
              have hB2 := Lib.hid (Own.below_grown hTd.out.1 hBd.out hBd.out.size hgb)
              clear hob hgb hatb
              go_wp2_with fail
              go_roundw
              case rel => exact ⟨e + 1, by omega, by rw [HA2.out]; go_num, Lib.hid (by rw [e1.out, e2.out]; exact hT2.out), hB2⟩
              case measure => simp [intOf]; omega
    · obtain rfl : e = m := by omega
      have haM : ¬ (a : Int) + K ≤ M := by
        have h2 := HMK.out.2
        omega
      have hal : a ≤ M := by have h2 := HMK.out.1; omega
      go_wp2_with fail
      first | go_ret | go_returns
      exact ⟨_, _, rfl, hT.out.more hw4, HW4.out.trans (hbel.out.mono hw4)⟩
end Go.Proofs.Yteghpageamehkaa
namespace Go.Proofs.Yteghpageamehkaa
set_option linter.unusedSimpArgs false
open Go.RowKit

def teC (r c : Int) (xs : List Int) (v : Int) : Int := bif sqB r c xs then (bif inR v 1 8 then 0 else 2) else 1
def teE (r c : Int) (xs : List Int) (v : Int) : List Int := bif sqB r c xs then (bif inR v 1 8 then elL (atL r.toNat xs (dataL r.toNat)) v.toNat ((dataL r.toNat).length / v.toNat) else []) else []
def teU (r c : Int) (xs : List Int) (v : Int) : List Int := bif sqB r c xs then (bif inR v 1 8 then unL (atL r.toNat xs (dataL r.toNat)) v.toNat ((dataL r.toNat).length / v.toNat) else []) else []
theorem te_le (r c : Int) (xs : List Int) (v : Int) : (teE r c xs v).length ≤ 1640 ∧ (teU r c xs v).length ≤ 1640 := by
  unfold teE teU
  cases hs : sqB r c xs
  · simp
  · obtain ⟨N, rfl, rfl, hN, hl, _⟩ := sqB_true hs
    cases inR v 1 8
    · simp
    · simp only [cond_true]
      have h1 := dataL_le hN.2.1
      have h2 := unL_len (atL (N : Int).toNat xs (dataL (N : Int).toNat)) v.toNat ((dataL (N : Int).toNat).length / v.toNat)
      have h3 := Nat.div_le_self (dataL (N : Int).toNat).length v.toNat
      rw [elL_len]
      simp only [Int.toNat_natCast] at h1 h2 h3 ⊢
      omega
theorem TwoI.nil (w : World) (B : Nat) : TwoI w B (.slice none 0 0) [] (.slice none 0 0) [] := ⟨Own.nil, Own.nil, fun k h => by simp [Value.ownBlock] at h⟩
set_option maxHeartbeats 4000000 in
theorem TakeElements_any (r c : Int) (A : Option Addr) (n cp : Nat) (xs : List Int) (v : Int) (w : World) (B : Nat) (hr : RI w B A n xs) (hB : B ≤ w.heap.size) (hn : n ≤ 1000000000000000) :
    Calls Try.prog 36 #[.agg #[.int .i64 r, .int .i64 c, .slice A n cp], .int .i64 v] w fun e w' =>
      ∃ u1 u2, e = .returned (.tuple #[u1, u2, .int .i64 (teC r c xs v)]) ∧ TwoI w' w.heap.size u1 (teE r c xs v) u2 (teU r c xs v) ∧ Below w.heap.size w w' := by
  have HR := Lib.hid (hr.more hB)
  have HC := Lib.hid (fun w' (hb : Below w.heap.size w w') => isMatrix_any r c A n cp xs w' w.heap.size (HR.out.below hb) hb.size hn)
  have hlen := hr.len
  clear hr
  unfold teC teE teU
  cases hs : sqB r c xs
  · rw [hs] at HC
    go_enter Try.func36, Try.ntmps36
    go_wp2_with (go_at_call 72; go_call (HC.out _ (by go_grown)) as e1 w1 ⟨rfl, hb1⟩; obtain ⟨hc1, hf1⟩ := bcell hb1; have hB1 : Below w.heap.size w w1 := (below_then (by first | (go_grown; done) | (repeat (first | (with_reducible assumption) | (with_reducible exact Below.refl _ _) | (with_reducible refine below_drewN' ?_ _) | (with_reducible refine Below.drew ?_) | ((with_reducible refine Below.alloc ?_ ?_ _); rotate_left; focus (first | (simp; done) | (simp; omega) | omega)) | ((with_reducible refine Below.setCell ?_ ?_ _); rotate_left; focus (first | (simp; done) | (simp; omega) | omega))))) (by first | omega | (simp; done) | (simp; omega)) hb1); have hz1a : w.heap.size < w1.heap.size := (by have := hb1.size; first | omega | (simp at this; omega)))
    first | go_ret | go_returns
    exact ⟨.slice none 0 0, .slice none 0 0, by simp, by simpa using TwoI.nil _ _, by (repeat (first | (with_reducible assumption) | (with_reducible exact Below.refl _ _) | (with_reducible refine below_drewN' ?_ _) | (with_reducible refine Below.drew ?_) | ((with_reducible refine Below.alloc ?_ ?_ _); rotate_left; focus (first | (simp; done) | (simp; omega) | omega)) | ((with_reducible refine Below.setCell ?_ ?_ _); rotate_left; focus (first | (simp; done) | (simp; omega) | omega))))⟩
  rw [hs] at HC
  cases hv : inR v 1 8
  · go_enter Try.func36, Try.ntmps36
    go_wp2_with first | (go_at_call 53; refine (inRange_any _ _ _ _).mono ?_; rintro e w' ⟨rfl, rfl⟩) | (go_at_call 72; go_call (HC.out _ (by go_grown)) as e1 w1 ⟨rfl, hb1⟩; obtain ⟨hc1, hf1⟩ := bcell hb1; have hB1 : Below w.heap.size w w1 := (below_then (by first | (go_grown; done) | (repeat (first | (with_reducible assumption) | (with_reducible exact Below.refl _ _) | (with_reducible refine below_drewN' ?_ _) | (with_reducible refine Below.drew ?_) | ((with_reducible refine Below.alloc ?_ ?_ _); rotate_left; focus (first | (simp; done) | (simp; omega) | omega)) | ((with_reducible refine Below.setCell ?_ ?_ _); rotate_left; focus (first | (simp; done) | (simp; omega) | omega))))) (by first | omega | (simp; done) | (simp; omega)) hb1); have hz1a : w.heap.size < w1.heap.size := (by have := hb1.size; first | omega | (simp at this; omega)))
    first | go_ret | go_returns
    exact ⟨.slice none 0 0, .slice none 0 0, by simp, by simpa using TwoI.nil _ _, by (repeat (first | (with_reducible assumption) | (with_reducible exact Below.refl _ _) | (with_reducible refine below_drewN' ?_ _) | (with_reducible refine Below.drew ?_) | ((with_reducible refine Below.alloc ?_ ?_ _); rotate_left; focus (first | (simp; done) | (simp; omega) | omega)) | ((with_reducible refine Below.setCell ?_ ?_ _); rotate_left; focus (first | (simp; done) | (simp; omega) | omega))))⟩
  · obtain ⟨N, rfl, rfl, hN, hl, hal⟩ := sqB_true hs
    have hvr := inR_true hv
    obtain ⟨V, rfl⟩ := Int.eq_ofNat_of_zero_le (show 0 ≤ v by omega)
    have hN0 : 0 < N * N := Nat.mul_pos (by omega) (by omega)
    have hnN : n = N * N := by omega
    subst hnN
    obtain ⟨b, o, rfl, -, -⟩ := HR.out.cells hN0
    have HT := Lib.hid (fun (w' : World) (hb : Below w.heap.size w w') => takeElements_any N b o cp V xs w' w.heap.size hN (by omega) (HR.out.below hb) hb.size hl hal)
    simp only [cond_true, Int.toNat_natCast]
    generalize elL (atL N xs (dataL N)) V ((dataL N).length / V) = L1 at HT ⊢
    generalize unL (atL N xs (dataL N)) V ((dataL N).length / V) = L2 at HT ⊢
    clear hal hl hlen hs
    go_enter Try.func36, Try.ntmps36
    go_wp2_with fail
    (go_at_call 72; go_call (HC.out _ (by go_grown)) as e1 w1 ⟨rfl, hb1⟩; obtain ⟨hc1, hf1⟩ := bcell hb1; have hB1 : Below w.heap.size w w1 := (below_then (by first | (go_grown; done) | (repeat (first | (with_reducible assumption) | (with_reducible exact Below.refl _ _) | (with_reducible refine below_drewN' ?_ _) | (with_reducible refine Below.drew ?_) | ((with_reducible refine Below.alloc ?_ ?_ _); rotate_left; focus (first | (simp; done) | (simp; omega) | omega)) | ((with_reducible refine Below.setCell ?_ ?_ _); rotate_left; focus (first | (simp; done) | (simp; omega) | omega))))) (by first | omega | (simp; done) | (simp; omega)) hb1); have hz1a : w.heap.size < w1.heap.size := (by have := hb1.size; first | omega | (simp at this; omega)))
    have HX1 := Lib.hid (blk_below (heap_alloc_new w (.cells #[.int .i64 (N : Int), .int .i64 (N : Int), .slice (some ⟨b, o, none⟩) (N * N) cp] 37)) hb1 (by simp))
    obtain ⟨y0, y1, y2, -⟩ := blk3 HX1.out
    clear hc1 hf1
    go_wp2_with (go_at_call 53; refine (inRange_any _ _ _ _).mono ?_; rintro e w' ⟨rfl, rfl⟩)
    go_at_call 73
    with_reducible refine (HT.out _ hB1).mono ?_
    rintro e2 w2 ⟨v1, v2, rfl, hT, hb2⟩
    have hB2 := hB1.trans (hb2.mono (by have := hb1.size; simp at this; omega))
    have HT2 := Lib.hid (hT.more (B' := w.heap.size) (by have := hb1.size; simp at this; omega))
    clear hT hb2
    go_wp2_with fail
    first | go_ret | go_returns
    exact ⟨_, _, rfl, HT2.out, hB2⟩
set_option maxHeartbeats 4000000 in
theorem sTakeElements_any (r c : Int) (A : Option Addr) (n cp : Nat) (xs : List Int) (v : Int) (w : World) (B : Nat) (hr : RI w B A n xs) (hB : B ≤ w.heap.size) (hn : n ≤ 1000000000000000) :
    Calls Try.prog 34 #[.agg #[.int .i64 r, .int .i64 c, .slice A n cp], .int .i64 v] w fun e w' =>
      ∃ u1 u2, e = .returned (.tuple #[u1, u2, .int .i64 (teC r c xs v)]) ∧ TwoI w' w.heap.size u1 (teE r c xs v) u2 (teU r c xs v) ∧ Below w.heap.size w w' := by
  have HR := Lib.hid (hr.more hB)
  have HC := Lib.hid (fun w' (hb : Below w.heap.size w w') => l14Square_any r c A n cp xs w' w.heap.size (HR.out.below hb) hb.size hn)
  have hlen := hr.len
  clear hr
  unfold teC teE teU
  cases hs : sqB r c xs
  · rw [hs] at HC
    go_enter Try.func34, Try.ntmps34
    go_wp2_with (go_at_call 70; go_call (HC.out _ (by go_grown)) as e1 w1 ⟨rfl, hb1⟩; obtain ⟨hc1, hf1⟩ := bcell hb1; have hB1 : Below w.heap.size w w1 := (below_then (by first | (go_grown; done) | (repeat (first | (with_reducible assumption) | (with_reducible exact Below.refl _ _) | (with_reducible refine below_drewN' ?_ _) | (with_reducible refine Below.drew ?_) | ((with_reducible refine Below.alloc ?_ ?_ _); rotate_left; focus (first | (simp; done) | (simp; omega) | omega)) | ((with_reducible refine Below.setCell ?_ ?_ _); rotate_left; focus (first | (simp; done) | (simp; omega) | omega))))) (by first | omega | (simp; done) | (simp; omega)) hb1); have hz1a : w.heap.size < w1.heap.size := (by have := hb1.size; first | omega | (simp at this; omega)))
    first | go_ret | go_returns
    exact ⟨.slice none 0 0, .slice none 0 0, by simp, by simpa using TwoI.nil _ _, by (repeat (first | (with_reducible assumption) | (with_reducible exact Below.refl _ _) | (with_reducible refine below_drewN' ?_ _) | (with_reducible refine Below.drew ?_) | ((with_reducible refine Below.alloc ?_ ?_ _); rotate_left; focus (first | (simp; done) | (simp; omega) | omega)) | ((with_reducible refine Below.setCell ?_ ?_ _); rotate_left; focus (first | (simp; done) | (simp; omega) | omega))))⟩
  rw [hs] at HC
  cases hv : inR v 1 8
  · go_enter Try.func34, Try.ntmps34
    go_wp2_with first | (go_at_call 56; refine (l15Width_any _ _).mono ?_; rintro e w' ⟨rfl, rfl⟩) | (go_at_call 70; go_call (HC.out _ (by go_grown)) as e1 w1 ⟨rfl, hb1⟩; obtain ⟨hc1, hf1⟩ := bcell hb1; have hB1 : Below w.heap.size w w1 := (below_then (by first | (go_grown; done) | (repeat (first | (with_reducible assumption) | (with_reducible exact Below.refl _ _) | (with_reducible refine below_drewN' ?_ _) | (with_reducible refine Below.drew ?_) | ((with_reducible refine Below.alloc ?_ ?_ _); rotate_left; focus (first | (simp; done) | (simp; omega) | omega)) | ((with_reducible refine Below.setCell ?_ ?_ _); rotate_left; focus (first | (simp; done) | (simp; omega) | omega))))) (by first | omega | (simp; done) | (simp; omega)) hb1); have hz1a : w.heap.size < w1.heap.size := (by have := hb1.size; first | omega | (simp at this; omega)))
    first | go_ret | go_returns
    exact ⟨.slice none 0 0, .slice none 0 0, by simp, by simpa using TwoI.nil _ _, by (repeat (first | (with_reducible assumption) | (with_reducible exact Below.refl _ _) | (with_reducible refine below_drewN' ?_ _) | (with_reducible refine Below.drew ?_) | ((with_reducible refine Below.alloc ?_ ?_ _); rotate_left; focus (first | (simp; done) | (simp; omega) | omega)) | ((with_reducible refine Below.setCell ?_ ?_ _); rotate_left; focus (first | (simp; done) | (simp; omega) | omega))))⟩
  · obtain ⟨N, rfl, rfl, hN, hl, hal⟩ := sqB_true hs
    have hvr := inR_true hv
    obtain ⟨V, rfl⟩ := Int.eq_ofNat_of_zero_le (show 0 ≤ v by omega)
    have hN0 : 0 < N * N := Nat.mul_pos (by omega) (by omega)
    have hnN : n = N * N := by omega
    subst hnN
    obtain ⟨b, o, rfl, -, -⟩ := HR.out.cells hN0
    have HT := Lib.hid (fun (w' : World) (hb : Below w.heap.size w w') => l15Take_any N b o cp V xs w' w.heap.size hN (by omega) (HR.out.below hb) hb.size hl hal)
    simp only [cond_true, Int.toNat_natCast]
    generalize elL (atL N xs (dataL N)) V ((dataL N).length / V) = L1 at HT ⊢
    generalize unL (atL N xs (dataL N)) V ((dataL N).length / V) = L2 at HT ⊢
    clear hal hl hlen hs
    go_enter Try.func34, Try.ntmps34
    go_wp2_with fail
    (go_at_call 70; go_call (HC.out _ (by go_grown)) as e1 w1 ⟨rfl, hb1⟩; obtain ⟨hc1, hf1⟩ := bcell hb1; have hB1 : Below w.heap.size w w1 := (below_then (by first | (go_grown; done) | (repeat (first | (with_reducible assumption) | (with_reducible exact Below.refl _ _) | (with_reducible refine below_drewN' ?_ _) | (with_reducible refine Below.drew ?_) | ((with_reducible refine Below.alloc ?_ ?_ _); rotate_left; focus (first | (simp; done) | (simp; omega) | omega)) | ((with_reducible refine Below.setCell ?_ ?_ _); rotate_left; focus (first | (simp; done) | (simp; omega) | omega))))) (by first | omega | (simp; done) | (simp; omega)) hb1); have hz1a : w.heap.size < w1.heap.size := (by have := hb1.size; first | omega | (simp at this; omega)))
    have HX1 := Lib.hid (blk_below (heap_alloc_new w (.cells #[.int .i64 (N : Int), .int .i64 (N : Int), .slice (some ⟨b, o, none⟩) (N * N) cp] 37)) hb1 (by simp))
    obtain ⟨y0, y1, y2, -⟩ := blk3 HX1.out
    clear hc1 hf1
    go_wp2_with (go_at_call 56; refine (l15Width_any _ _).mono ?_; rintro e w' ⟨rfl, rfl⟩)
    go_at_call 71
    with_reducible refine (HT.out _ hB1).mono ?_
    rintro e2 w2 ⟨v1, v2, rfl, hT, hb2⟩
    have hB2 := hB1.trans (hb2.mono (by have := hb1.size; simp at this; omega))
    have HT2 := Lib.hid (hT.more (B' := w.heap.size) (by have := hb1.size; simp at this; omega))
    clear hT hb2
    go_wp2_with fail
    first | go_ret | go_returns
    exact ⟨_, _, rfl, HT2.out, hB2⟩
end Go.Proofs.Yteghpageamehkaa
