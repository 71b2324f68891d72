/-
  The row FnTouched: unknown cells of a drawn grid make exactly the elements unknown that they touch; no condition.
-/
import Derived.Test.YteghpageamehkaaMtb
import Derived.Test.YteghpageamehkaaC14I
import Derived.Test.YteghpageamehkaaC14T
import Derived.Test.YteghpageamehkaaTe
import Derived.Test.YteghpageamehkaaRegion
import Derived.Test.YteghpageamehkaaSlice
import Derived.Test.YteghpageamehkaaArgB
import Derived.Test.YteghpageamehkaaDrT
import Derived.Test.YteghpageamehkaaMta
namespace Go.Proofs.Yteghpageamehkaa
set_option linter.unusedSimpArgs false
open Go.RowKit

set_option maxRecDepth 20000 in
set_option maxHeartbeats 4000000 in
theorem l15Take_any (N b o cp K : Nat) (xs : List Int) (w : World) (B : Nat) (hN : 17 ≤ N ∧ N ≤ 41 ∧ N % 4 = 1) (hK : 1 ≤ K ∧ K ≤ 8) (hr : RI w B (some ⟨b, o, none⟩) (N * N) xs) (hB : B ≤ w.heap.size) (hl : xs.length = N * N) (hal : allIn (-1) 1 xs = true) :
    Calls Try.prog 71 #[.agg #[.int .i64 N, .int .i64 N, .slice (some ⟨b, o, none⟩) (N * N) cp], .int .i64 K] w fun e w' =>
      ∃ v1 v2, e = .returned (.tuple #[v1, v2]) ∧ TwoI w' w.heap.size v1 (elL (atL N xs (dataL N)) K ((dataL N).length / K)) v2 (unL (atL N xs (dataL N)) K ((dataL N).length / K)) ∧ Below w.heap.size w w' := by
  obtain ⟨i0, hi⟩ := info_own' info_i64s
  have HI := Lib.hid (And.intro i0.bytes.le_refl hi)
  have HR := Lib.hid (hr.more hB)
  have hN1 := hN.1
  have hN2 := hN.2.1
  have hK1 := hK.1
  have hK2 := hK.2
  have HD := Lib.hid (fun w => l15Places_any N w hN)
  have HIN := Lib.hid (data_in4 hN)
  have HB := Lib.hid (atL_b hal hl (data_in4 hN))
  have hMx := dataL_le hN2
  have hM0 := data_pos hN
  have hMl := atL_len N xs (dataL N)
  obtain ⟨ps, hps⟩ : ∃ ps, dataL N = ps := ⟨_, rfl⟩
  have HD : Hid (∀ w, Calls Try.prog 59 #[.int .i64 N] w fun e w' => ∃ v, e = .returned v ∧ OwnP w' w.heap.size v ps ∧ Below w.heap.size w w') := Lib.hid (by rw [← hps]; exact HD.out)
  rw [hps] at HIN HB hMx hM0 hMl ⊢
  obtain ⟨M, hMM⟩ : ∃ M, ps.length = M := ⟨_, rfl⟩
  have HLP := Lib.hid hMM
  rw [hMM] at hMx hM0 hMl ⊢
  have HAT := Lib.hid (fun (k : Nat) (h : k < M) => atL_nth (N := N) (xs := xs) (ps := ps) (k := k) (by rw [HLP.out]; exact h))
  obtain ⟨cs, hcs⟩ : ∃ cs, atL N xs ps = cs := ⟨_, rfl⟩
  rw [hcs] at HAT HB hMl ⊢
  have HCL := Lib.hid hMl
  have HBB : Hid (∀ a j, a + j ≤ M → j ≤ 8 → -1 ≤ tkV cs a j ∧ tkV cs a j < 256) := Lib.hid (fun a j h1 h2 => tkV_256 HB.out (by rw [HCL.out]; exact h1) h2)
  obtain ⟨m, hm⟩ : ∃ m, M / K = m := ⟨_, rfl⟩
  have hmK : m * K ≤ M := by rw [← hm]; exact Nat.div_mul_le_self M K
  have hmK2 : M < m * K + K := by
    have := Nat.lt_div_mul_add (a := M) (b := K) (by omega)
    rw [hm] at this; exact this
  rw [hm]
  have HMK := Lib.hid (And.intro hmK hmK2)
  obtain ⟨W1, hW1⟩ : ∃ W1, W1 = w.alloc (.cells #[.int .i64 (N : Int), .int .i64 (N : Int), .slice (some ⟨b, o, none⟩) (N * N) cp] 37) := ⟨_, rfl⟩
  have HX1 : Hid (W1.heap[w.heap.size]? = some (.cells #[.int .i64 (N : Int), .int .i64 (N : Int), .slice (some ⟨b, o, none⟩) (N * N) cp] 37 (0, 0))) := Lib.hid (by rw [hW1]; exact heap_alloc_new _ _)
  have HW : Hid (Below w.heap.size w W1) := Lib.hid (by rw [hW1]; exact (Below.refl _ _).alloc (Nat.le_refl _) _)
  have hNN : N * N ≤ 1681 := Nat.mul_le_mul hN2 hN2
  have hws : w.heap.size < W1.heap.size := by rw [hW1]; simp
  have HR1 := Lib.hid (HR.out.below HW.out)
  clear hps hMM hm hcs hMl hmK hmK2 hi hr hal hN hB hl
  go_enter Try.func71, Try.ntmps71
  go_wp2_with fail
  rw [← hW1]
  clear hW1
  obtain ⟨y0, y1, y2, -⟩ := blk3 HX1.out
  go_wp2_with fail
  (go_at_call 59; with_reducible refine (HD.out _).mono ?_; rintro e3 w3 ⟨v3, rfl, ho3, hb3⟩)
  have hsz3 := hb3.size
  obtain ⟨g, c3, rfl, -, hg3, -⟩ := ho3.cells (by rw [HLP.out]; exact hM0)
  rw [HLP.out] at ho3 ⊢
  have HP3 := Lib.hid (RP.of ho3 HLP.out hM0)
  have HX3 := Lib.hid ((hb3.block w.heap.size hws).trans HX1.out)
  have HW4 := Lib.hid (HW.out.trans (hb3.mono (Nat.le_of_lt hws)))
  have HR3 := Lib.hid (HR1.out.below (hb3.mono (Nat.le_of_lt hws)))
  have HE := Lib.hid (two_empty w3)
  have HBE : Hid (Below w3.heap.size w3 ((w3.alloc (.cells #[] 2)).alloc (.cells #[] 2))) := Lib.hid (by go_grown)
  have hw4 : w.heap.size ≤ w3.heap.size := by omega
  have hw5 : w.heap.size < w3.heap.size := by omega
  clear y0 y1 y2 ho3 hb3
  go_wp2_with fail
  go_loopw [7, 8, 9] (fun s1 s2 at' wr => ∃ e : Nat, e ≤ m ∧ at' = .int .i64 ((e * K : Nat) : Int) ∧ Hid (TwoI wr w3.heap.size s1 (elL cs K e) s2 (unL cs K e)) ∧ Hid (Below w3.heap.size w3 wr))
    (fun _ _ q _ => M - (intOf q).toNat)
  case atStart => exact ⟨0, Nat.zero_le _, by simp, HE, HBE⟩
  case round =>
    obtain ⟨e, he, rfl, hT, hbel⟩ := hrel
    obtain ⟨a, ha⟩ : ∃ a, e * K = a := ⟨_, rfl⟩
    have ha2 : (e + 1) * K = a + K := by rw [Nat.succ_mul, ha]
    have HA2 := Lib.hid ha2
    rw [ha]
    by_cases hlt : e < m
    · have haK : a + K ≤ M := by
        have h1 := Nat.mul_le_mul_right K (show e + 1 ≤ m by omega)
        have h2 := HMK.out.1
        omega
      have hal : a ≤ M := by omega
      have hAK : (a : Int) + K ≤ M := by omega
      have hst1 := Lib.hid (show elL cs K (e + 1) = elL cs K e ++ [max 0 (tkV cs a K)] by rw [← ha]; rfl)
      have hst2 := Lib.hid (show unL cs K (e + 1) = bif decide (tkV cs a K < 0) then unL cs K e ++ [(e : Int)] else unL cs K e by rw [← ha]; rfl)
      have hl1 := elL_len cs K e
      have hl2 := unL_len cs K e
      have hem : e ≤ 1640 := by
        have h1 := Nat.le_mul_of_pos_right e (show 0 < K by omega)
        omega
      have hqe : (a : Int) / K = (e : Int) := by
        rw [← ha, ← Int.natCast_ediv, Nat.mul_div_cancel _ (by omega)]
      have hqw : IntKind.i64.wrap ((a : Int) / K) = (e : Int) := by rw [hqe]; exact i64_in (by omega)
      have HQW := Lib.hid hqw
      have hK0 : ¬ K = 0 := by omega
      generalize elL cs K e = L1 at hT hst1 hl1
      generalize unL cs K e = L2 at hT hst2 hl2
      have hl1' : L1.length ≤ 1640 := by omega
      clear ha ha2 hl1 hqe hqw
      go_wp2_with fail
      go_loopw [10, 11, 12] (fun x q q1 wr' => ∃ j : Nat, j ≤ K ∧ q = .int .i64 ((a : Int) + j) ∧ x = .int .i64 (tkV cs a j) ∧ Hid (∃ n, wr' = wr.drewN n))
        (fun _ q _ _ => a + K - (intOf q).toNat)
      case atStart => exact ⟨0, Nat.zero_le _, by simp, rfl, Lib.hid ⟨0, rfl⟩⟩
      case round =>
        rename_i wr2
        obtain ⟨j, hj, rfl, rfl, hdr⟩ := hrel
        obtain ⟨n0, rfl⟩ := hdr.out
        clear hdr
        by_cases hjl : j < K
        · have hk2 : a + j < ps.length := by rw [HLP.out]; omega
          obtain ⟨hia, hib⟩ := idxP_lt (HIN.out _ (nthP_mem hk2))
          have hic := (HIN.out _ (nthP_mem hk2))
          have hat := HAT.out (a + j) (by omega)
          obtain ⟨b', o', e', hb', hc'⟩ := (HR3.out.below (hbel.out.mono hw4)).cells (by omega)
          simp only [Option.some.injEq, Addr.mk.injEq, and_true] at e'
          obtain ⟨rfl, rfl⟩ := e'
          have hck := hc' _ hia
          obtain ⟨-, -, hpc⟩ := HP3.out.below hbel.out (Nat.le_refl _)
          obtain ⟨p0, p1⟩ := hpc (a + j) hk2
          have hcb := HB.out (a + j) (by rw [HCL.out]; omega)
          have hxb := HBB.out a j (by omega) (by omega)
          have hstj := Lib.hid (show tkV cs a (j + 1) = tkS (tkV cs a j) (nth cs (a + j)) from rfl)
          obtain ⟨z0, z1, z2, -⟩ := blk3 ((hbel.out.block w.heap.size hw5).trans HX3.out)
          rw [hat] at hcb hstj
          generalize nthP ps (a + j) = p at hia hib hic p0 p1 hcb hstj hck
          obtain ⟨pr, pc⟩ := p
          simp only at hib hic p0 p1
          generalize idxP N (pr, pc) = X at hia hib hcb hstj hck
          have wA1 : IntKind.i64.wrap (pr * N) = pr * N := i64_in (by omega)
          have wA2 : IntKind.i64.wrap (pr * N + pc) = X := by rw [hib]; exact i64_in (by omega)
          have wA3 : IntKind.i64.wrap (X : Int) = X := i64_in (by omega)
          have vA : (X : Int) < (N : Int) * N := by
            have : (X : Int) < ((N * N : Nat) : Int) := by omega
            simpa using this
          generalize nth xs X = c at hck hcb hstj
          generalize tkV cs a j = x at hxb hstj ⊢
          have hsr := hbel.out.size
          have hwz : w.heap.size < wr.heap.size := by omega
          have hbz : b < wr.heap.size := by omega
          have hgz : g < wr.heap.size := by omega
          obtain ⟨J, hJ⟩ : ∃ J, a + j = J := ⟨_, rfl⟩
          have hJi : (a : Int) + j = (J : Int) := by rw [← hJ]; simp
          have HJ : Hid ((a : Int) + ((j + 1 : Nat) : Int) = (J : Int) + 1) := Lib.hid (by rw [← hJi]; simp; omega)
          have hJK : J < a + K := by omega
          have hJK' : (J : Int) < (a : Int) + K := by omega
          have hJM : J < M := by omega
          rw [hJ] at p0 p1
          rw [hJi]
          clear hpc hk2 hc' hat hJ hJi
          by_cases hc0 : c < 0
          · have hv : Hid (tkV cs a (j + 1) = -1) := Lib.hid (by rw [hstj.out]; simp [tkS, hc0])
            go_wp2_with fail
            go_quiet (fail)
            go_wp2_with fail
            go_roundw
            case rel => exact ⟨j + 1, by omega, by rw [HJ.out], by rw [hv.out], Lib.hid ⟨_, rfl⟩⟩
            case measure => simp [intOf]; omega
          · by_cases hx0 : x < 0
            · have hv : Hid (tkV cs a (j + 1) = -1) := Lib.hid (by rw [hstj.out]; simp [tkS, hx0])
              go_wp2_with fail
              go_quiet (fail)
              go_wp2_with fail
              go_roundw
              case rel => exact ⟨j + 1, by omega, by rw [HJ.out], by rw [hv.out], Lib.hid ⟨_, rfl⟩⟩
              case measure => simp [intOf]; omega
            · have hc1 : 0 ≤ c := by omega
              have hx1 : 0 ≤ x := by omega
              have hv : Hid (tkV cs a (j + 1) = 2 * x + c) := Lib.hid (by rw [hstj.out]; simp [tkS, hc0, hx0])
              go_wp2_with fail
              go_quiet (fail)
              go_wp2_with fail
              go_roundw
              case rel => exact ⟨j + 1, by omega, by rw [HJ.out], by rw [hv.out], Lib.hid ⟨_, rfl⟩⟩
              case measure => simp [intOf]; omega
        · obtain rfl : j = K := by omega
          obtain ⟨X, hX⟩ : ∃ X, tkV cs a j = X := ⟨_, rfl⟩
          rw [hX] at hst1 hst2 ⊢
          clear hX
          have hqw := HQW.out
          have hTd : Hid (TwoI (wr.drewN n0) w3.heap.size _ L1 _ L2) := Lib.hid (hT.out.keep (below_drewN' (Below.refl _ _) n0))
          have hBd : Hid (Below w3.heap.size w3 (wr.drewN n0)) := Lib.hid (below_drewN' hbel.out n0)
          generalize wr.drewN n0 = wr at hTd hBd ⊢
          by_cases hX0 : X < 0
          · have hmx : max 0 X = 0 := by omega
            have e1 : Hid (elL cs j (e + 1) = L1 ++ [0]) := Lib.hid (by rw [hst1.out, show max 0 X = 0 by omega])
            have e2 : Hid (unL cs j (e + 1) = L2 ++ [(e : Int)]) := Lib.hid (by rw [hst2.out, decide_eq_true hX0]; rfl)
            go_wp2_with first | ((at_builtin; refine wpList_append_own_at _ rfl _ _ 35 rfl (w3.heap.size) 2 i0 (.int .i64 0) 1 8 Try.underlying35 HI.out.2.1 HI.out.2.2.1 HI.out.2.2.2.1 HI.out.2.2.2.2 rfl (by decide) _ _ _ rfl (Own.alloc (hTd.out.2.1) _) ⟨wr.heap.size, 0, none⟩ 1 1 [.int .i64 ((e : Int))] rfl rfl (cell_one_new _ _ _) (one_ok _) (own_max (hTd.out.2.1) (by omega)) (own_bytes (hTd.out.2.1) (by omega)) (own_base (hBd.out.size)) ?_; intro va wa howna hga _ hata; have hoa := Own.snoc howna; clear howna); have hT1 := Lib.hid (hTd.out.symm.first hoa hga hata).symm; have hB1 := Lib.hid (Own.below_grown hTd.out.2.1 hBd.out hBd.out.size hga); clear hoa hga hata) | (at_builtin; refine wpList_append_own_at _ rfl _ _ 35 rfl (w3.heap.size) 2 i0 (.int .i64 0) 1 8 Try.underlying35 HI.out.2.1 HI.out.2.2.1 HI.out.2.2.2.1 HI.out.2.2.2.2 rfl (by decide) _ _ _ rfl (Own.alloc (hT1.out.1) _) ⟨wa.heap.size, 0, none⟩ 1 1 [.int .i64 (0)] rfl rfl (cell_one_new _ _ _) (one_ok _) (own_max (hT1.out.1) (by omega)) (own_bytes (hT1.out.1) (by omega)) (own_base (hB1.out.size)) ?_; intro vb wb hownb hgb _ hatb; have hob := Own.snoc hownb; clear hownb)
            have hT2 := Lib.hid (hT1.out.first hob hgb hatb)
            have hB2 := Lib.hid (Own.below_grown hT1.out.1 hB1.out hB1.out.size hgb)
            clear hob hgb hatb
            go_wp2_with fail
            go_roundw
            case rel => exact ⟨e + 1, by omega, by rw [HA2.out]; go_num, Lib.hid (by rw [e1.out, e2.out]; exact hT2.out), hB2⟩
            case measure => simp [intOf]; omega
          · have hsp : X = 0 ∨ 0 < X := by omega
            have e1 : Hid (elL cs j (e + 1) = L1 ++ [X]) := Lib.hid (by rw [hst1.out, show max 0 X = X by omega])
            have e2 : Hid (unL cs j (e + 1) = L2) := Lib.hid (by rw [hst2.out, decide_eq_false hX0]; rfl)
            rcases hsp with rfl | hX1
            · go_wp2_with (at_builtin; refine wpList_append_own_at _ rfl _ _ 35 rfl (w3.heap.size) 2 i0 (.int .i64 0) 1 8 Try.underlying35 HI.out.2.1 HI.out.2.2.1 HI.out.2.2.2.1 HI.out.2.2.2.2 rfl (by decide) _ _ _ rfl (Own.alloc (hTd.out.1) _) ⟨wr.heap.size, 0, none⟩ 1 1 [.int .i64 (0)] rfl rfl (cell_one_new _ _ _) (one_ok _) (own_max (hTd.out.1) (by omega)) (own_bytes (hTd.out.1) (by omega)) (own_base (hBd.out.size)) ?_; intro vb wb hownb hgb _ hatb; have hob := Own.snoc hownb; clear hownb)
              have hT2 := Lib.hid (hTd.out.first hob hgb hatb)
              have hB2 := Lib.hid (Own.below_grown hTd.out.1 hBd.out hBd.out.size hgb)
              clear hob hgb hatb
              go_wp2_with fail
              go_roundw
              case rel => exact ⟨e + 1, by omega, by rw [HA2.out]; go_num, Lib.hid (by rw [e1.out, e2.out]; exact hT2.out), hB2⟩
              case measure => simp [intOf]; omega
            · go_wp2_with (at_builtin; refine wpList_append_own_at _ rfl _ _ 35 rfl (w3.heap.size) 2 i0 (.int .i64 0) 1 8 Try.underlying35 HI.out.2.1 HI.out.2.2.1 HI.out.2.2.2.1 HI.out.2.2.2.2 rfl (by decide) _ _ _ rfl (Own.alloc (hTd.out.1) _) ⟨wr.heap.size, 0, none⟩ 1 1 [.int .i64 (X)] rfl rfl (cell_one_new _ _ _) (one_ok _) (own_max (hTd.out.1) (by omega)) (own_bytes (hTd.out.1) (by omega)) (own_base (hBd.out.size)) ?_; intro vb wb hownb hgb _ hatb; have hob := Own.snoc hownb; clear hownb)
              have hT2 := Lib.hid (hTd.out.first hob hgb hatb)
              have hB2 := Lib.hid (Own.below_grown hTd.out.1 hBd.out hBd.out.size hgb)
              clear hob hgb hatb
              go_wp2_with fail
              go_roundw
              case rel => exact ⟨e + 1, by omega, by rw [HA2.out]; go_num, Lib.hid (by rw [e1.out, e2.out]; exact hT2.out), hB2⟩
              case measure => simp [intOf]; omega
    · obtain rfl : e = m := by omega
      have haM : ¬ (a : Int) + K ≤ M := by
        have h2 := HMK.out.2
        omega
      have hal : a ≤ M := by have h2 := HMK.out.1; omega
      go_wp2_with fail
      first | go_ret | go_returns
      exact ⟨_, _, rfl, hT.out.more hw4, HW4.out.trans (hbel.out.mono hw4)⟩
end Go.Proofs.Yteghpageamehkaa
namespace Go.Proofs.Yteghpageamehkaa
set_option linter.unusedSimpArgs false
open Go.RowKit

def fgN (n : Int) : Int := if sizeB n then n else 0
def fgC (n : Int) : Int := if sizeB n then 0 else 2
def fgL (n : Int) : List Int := if sizeB n then fixL n.toNat else []
theorem fgL_len (n : Int) : (fgL n).length ≤ 1681 := by
  unfold fgL
  split
  · rename_i h
    obtain ⟨N, rfl, h1, h2, h3⟩ := sizeB_true h
    rw [fixL_len]
    exact Nat.mul_le_mul (by omega) (by omega)
  · simp


end Go.Proofs.Yteghpageamehkaa
namespace Go.Proofs.Yteghpageamehkaa
set_option linter.unusedSimpArgs false
open Go.RowKit

/-- Is a grid valid, square and of a matrix size? -/
def sqB (r c : Int) (xs : List Int) : Bool := gridB r c xs && (r == c) && sizeB r
theorem sqB_true {r c : Int} {xs : List Int} (h : sqB r c xs = true) : ∃ N : Nat, r = N ∧ c = N ∧ (17 ≤ N ∧ N ≤ 41 ∧ N % 4 = 1) ∧ xs.length = N * N ∧ allIn (-1) 1 xs = true := by
  simp only [sqB, Bool.and_eq_true, beq_iff_eq] at h
  obtain ⟨⟨h1, rfl⟩, h3⟩ := h
  obtain ⟨N, rfl, h4⟩ := sizeB_true h3
  have h5 := gridB_true h1
  exact ⟨N, rfl, rfl, h4, by have := h5.2.2.2.1; exact_mod_cast this, h5.2.2.2.2⟩
set_option maxHeartbeats 1000000 in
theorem isMatrix_any (r c : Int) (A : Option Addr) (n cp : Nat) (xs : List Int) (w : World) (B : Nat) (hr : RI w B A n xs) (hB : B ≤ w.heap.size) (hn : n ≤ 1000000000000000) :
    Calls Try.prog 72 #[.agg #[.int .i64 r, .int .i64 c, .slice A n cp]] w fun e w' => e = .returned (.bool (sqB r c xs)) ∧ Below w.heap.size w w' := by
  have HC := Lib.hid (IsGrid_any r c A n cp xs (w.alloc (.cells #[.int .i64 r, .int .i64 c, .slice A n cp] 37)) B (hr.alloc hB _) (by simp; omega) hn)
  clear hr
  unfold sqB
  generalize gridB r c xs = b1 at HC ⊢
  by_cases h2 : r = c
  · subst h2
    generalize hs : sizeB r = b2
    cases b1 <;> cases b2
    all_goals
      go_enter Try.func72, Try.ntmps72
      go_wp2_with first | (go_at_call 52; refine (isMatrixSize_any _ _).mono ?_; rintro e w' ⟨rfl, rfl⟩) | (go_at_call 87; go_call (HC.out) as e1 w1 ⟨rfl, hb1⟩; obtain ⟨hc1, hf1⟩ := bcell hb1; have hB1 : Below w.heap.size w w1 := (below_then (by first | (go_grown; done) | (repeat (first | (with_reducible assumption) | (with_reducible exact Below.refl _ _) | (with_reducible refine below_drewN' ?_ _) | (with_reducible refine Below.drew ?_) | ((with_reducible refine Below.alloc ?_ ?_ _); rotate_left; focus (first | (simp; done) | (simp; omega) | omega)) | ((with_reducible refine Below.setCell ?_ ?_ _); rotate_left; focus (first | (simp; done) | (simp; omega) | omega))))) (by first | omega | (simp; done) | (simp; omega)) hb1); have hz1a : w.heap.size < w1.heap.size := (by have := hb1.size; first | omega | (simp at this; omega)))
      go_ret
      exact ⟨by simp, by (repeat (first | (with_reducible assumption) | (with_reducible exact Below.refl _ _) | (with_reducible refine below_drewN' ?_ _) | (with_reducible refine Below.drew ?_) | ((with_reducible refine Below.alloc ?_ ?_ _); rotate_left; focus (first | (simp; done) | (simp; omega) | omega)) | ((with_reducible refine Below.setCell ?_ ?_ _); rotate_left; focus (first | (simp; done) | (simp; omega) | omega))))⟩
  · have e2 : (r == c) = false := by simpa using h2
    generalize hs : sizeB r = b2
    cases b1 <;> cases b2
    all_goals
      go_enter Try.func72, Try.ntmps72
      go_wp2_with first | (go_at_call 52; refine (isMatrixSize_any _ _).mono ?_; rintro e w' ⟨rfl, rfl⟩) | (go_at_call 87; go_call (HC.out) as e1 w1 ⟨rfl, hb1⟩; obtain ⟨hc1, hf1⟩ := bcell hb1; have hB1 : Below w.heap.size w w1 := (below_then (by first | (go_grown; done) | (repeat (first | (with_reducible assumption) | (with_reducible exact Below.refl _ _) | (with_reducible refine below_drewN' ?_ _) | (with_reducible refine Below.drew ?_) | ((with_reducible refine Below.alloc ?_ ?_ _); rotate_left; focus (first | (simp; done) | (simp; omega) | omega)) | ((with_reducible refine Below.setCell ?_ ?_ _); rotate_left; focus (first | (simp; done) | (simp; omega) | omega))))) (by first | omega | (simp; done) | (simp; omega)) hb1); have hz1a : w.heap.size < w1.heap.size := (by have := hb1.size; first | omega | (simp at this; omega)))
      go_ret
      exact ⟨by simp [h2], by (repeat (first | (with_reducible assumption) | (with_reducible exact Below.refl _ _) | (with_reducible refine below_drewN' ?_ _) | (with_reducible refine Below.drew ?_) | ((with_reducible refine Below.alloc ?_ ?_ _); rotate_left; focus (first | (simp; done) | (simp; omega) | omega)) | ((with_reducible refine Below.setCell ?_ ?_ _); rotate_left; focus (first | (simp; done) | (simp; omega) | omega))))⟩

set_option maxHeartbeats 1000000 in
theorem l14Square_any (r c : Int) (A : Option Addr) (n cp : Nat) (xs : List Int) (w : World) (B : Nat) (hr : RI w B A n xs) (hB : B ≤ w.heap.size) (hn : n ≤ 1000000000000000) :
    Calls Try.prog 70 #[.agg #[.int .i64 r, .int .i64 c, .slice A n cp]] w fun e w' => e = .returned (.bool (sqB r c xs)) ∧ Below w.heap.size w w' := by
  have HC := Lib.hid (sIsGrid_any r c A n cp xs (w.alloc (.cells #[.int .i64 r, .int .i64 c, .slice A n cp] 37)) B (hr.alloc hB _) (by simp; omega) hn)
  clear hr
  unfold sqB
  generalize gridB r c xs = b1 at HC ⊢
  by_cases h2 : r = c
  · subst h2
    generalize hs : sizeB r = b2
    cases b1 <;> cases b2
    all_goals
      go_enter Try.func70, Try.ntmps70
      go_wp2_with first | (go_at_call 55; refine (l14Size_any _ _).mono ?_; rintro e w' ⟨rfl, rfl⟩) | (go_at_call 86; go_call (HC.out) as e1 w1 ⟨rfl, hb1⟩; obtain ⟨hc1, hf1⟩ := bcell hb1; have hB1 : Below w.heap.size w w1 := (below_then (by first | (go_grown; done) | (repeat (first | (with_reducible assumption) | (with_reducible exact Below.refl _ _) | (with_reducible refine below_drewN' ?_ _) | (with_reducible refine Below.drew ?_) | ((with_reducible refine Below.alloc ?_ ?_ _); rotate_left; focus (first | (simp; done) | (simp; omega) | omega)) | ((with_reducible refine Below.setCell ?_ ?_ _); rotate_left; focus (first | (simp; done) | (simp; omega) | omega))))) (by first | omega | (simp; done) | (simp; omega)) hb1); have hz1a : w.heap.size < w1.heap.size := (by have := hb1.size; first | omega | (simp at this; omega)))
      go_ret
      exact ⟨by simp, by (repeat (first | (with_reducible assumption) | (with_reducible exact Below.refl _ _) | (with_reducible refine below_drewN' ?_ _) | (with_reducible refine Below.drew ?_) | ((with_reducible refine Below.alloc ?_ ?_ _); rotate_left; focus (first | (simp; done) | (simp; omega) | omega)) | ((with_reducible refine Below.setCell ?_ ?_ _); rotate_left; focus (first | (simp; done) | (simp; omega) | omega))))⟩
  · have e2 : (r == c) = false := by simpa using h2
    generalize hs : sizeB r = b2
    cases b1 <;> cases b2
    all_goals
      go_enter Try.func70, Try.ntmps70
      go_wp2_with first | (go_at_call 55; refine (l14Size_any _ _).mono ?_; rintro e w' ⟨rfl, rfl⟩) | (go_at_call 86; go_call (HC.out) as e1 w1 ⟨rfl, hb1⟩; obtain ⟨hc1, hf1⟩ := bcell hb1; have hB1 : Below w.heap.size w w1 := (below_then (by first | (go_grown; done) | (repeat (first | (with_reducible assumption) | (with_reducible exact Below.refl _ _) | (with_reducible refine below_drewN' ?_ _) | (with_reducible refine Below.drew ?_) | ((with_reducible refine Below.alloc ?_ ?_ _); rotate_left; focus (first | (simp; done) | (simp; omega) | omega)) | ((with_reducible refine Below.setCell ?_ ?_ _); rotate_left; focus (first | (simp; done) | (simp; omega) | omega))))) (by first | omega | (simp; done) | (simp; omega)) hb1); have hz1a : w.heap.size < w1.heap.size := (by have := hb1.size; first | omega | (simp at this; omega)))
      go_ret
      exact ⟨by simp [h2], by (repeat (first | (with_reducible assumption) | (with_reducible exact Below.refl _ _) | (with_reducible refine below_drewN' ?_ _) | (with_reducible refine Below.drew ?_) | ((with_reducible refine Below.alloc ?_ ?_ _); rotate_left; focus (first | (simp; done) | (simp; omega) | omega)) | ((with_reducible refine Below.setCell ?_ ?_ _); rotate_left; focus (first | (simp; done) | (simp; omega) | omega))))⟩

/-- At how many indexes below k two lists are so. -/
def cnt2 (p : Int → Int → Bool) (fs xs : List Int) : Nat → Nat
  | 0 => 0
  | k + 1 => cnt2 p fs xs k + if p (nth fs k) (nth xs k) then 1 else 0
theorem cnt2_le (p : Int → Int → Bool) (fs xs : List Int) (k : Nat) : cnt2 p fs xs k ≤ k := by
  induction k with
  | zero => exact Nat.le_refl _
  | succ k ih => simp only [cnt2]; split <;> omega
def ferrP (f x : Int) : Bool := decide (0 ≤ f) && decide (0 ≤ x) && (f != x)
def feV (r c : Int) (xs : List Int) : Int := if sqB r c xs then (cnt2 ferrP (fixL r.toNat) xs xs.length : Int) else 0
def feC (r c : Int) (xs : List Int) : Int := if sqB r c xs then 0 else 1
set_option maxRecDepth 20000 in
set_option maxHeartbeats 2000000 in
theorem FixedErrors_any (r c : Int) (A : Option Addr) (n cp : Nat) (xs : List Int) (w : World) (B : Nat) (hr : RI w B A n xs) (hB : B ≤ w.heap.size) (hn : n ≤ 1000000000000000) :
    Calls Try.prog 41 #[.agg #[.int .i64 r, .int .i64 c, .slice A n cp]] w fun e w' => e = .returned (.tuple #[.int .i64 (feV r c xs), .int .i64 (feC r c xs)]) ∧ Below w.heap.size w w' := by
  have HL := Lib.hid hr.len
  have HR := Lib.hid (hr.more hB)
  have HC := Lib.hid (fun w' (hb : Below w.heap.size w w') => isMatrix_any r c A n cp xs w' w.heap.size (HR.out.below hb) hb.size hn)
  clear hr
  unfold feV feC
  cases hg : sqB r c xs
  · rw [hg] at HC
    go_enter Try.func41, Try.ntmps41
    go_wp2_with (go_at_call 72; go_call (HC.out _ (by go_grown)) as e1 w1 ⟨rfl, hb1⟩; obtain ⟨hc1, hf1⟩ := bcell hb1; have hB1 : Below w.heap.size w w1 := (below_then (by first | (go_grown; done) | (repeat (first | (with_reducible assumption) | (with_reducible exact Below.refl _ _) | (with_reducible refine below_drewN' ?_ _) | (with_reducible refine Below.drew ?_) | ((with_reducible refine Below.alloc ?_ ?_ _); rotate_left; focus (first | (simp; done) | (simp; omega) | omega)) | ((with_reducible refine Below.setCell ?_ ?_ _); rotate_left; focus (first | (simp; done) | (simp; omega) | omega))))) (by first | omega | (simp; done) | (simp; omega)) hb1); have hz1a : w.heap.size < w1.heap.size := (by have := hb1.size; first | omega | (simp at this; omega)))
    go_returns
    exact ⟨by simp, by (repeat (first | (with_reducible assumption) | (with_reducible exact Below.refl _ _) | (with_reducible refine below_drewN' ?_ _) | (with_reducible refine Below.drew ?_) | ((with_reducible refine Below.alloc ?_ ?_ _); rotate_left; focus (first | (simp; done) | (simp; omega) | omega)) | ((with_reducible refine Below.setCell ?_ ?_ _); rotate_left; focus (first | (simp; done) | (simp; omega) | omega))))⟩
  · rw [hg] at HC
    obtain ⟨N, rfl, rfl, hN, hxl, hal⟩ := sqB_true hg
    have HF := Lib.hid (fun w => fixed_any N w hN)
    have HA := Lib.hid hal
    have hfl := fixL_len N
    have hfi : ∀ k, k < N * N → -1 ≤ nth (fixL N) k ∧ nth (fixL N) k ≤ 1 := fun k hk => fixL_in hN hk
    rw [Int.toNat_natCast]
    generalize fixL N = fs at HF hfl hfi ⊢
    have hnN : n = N * N := by rw [← HL.out, hxl]
    have hNN : N * N ≤ 1681 := Nat.mul_le_mul hN.2.1 hN.2.1
    have hn2 : n ≤ 1681 := by omega
    rw [← hnN] at hfl hfi
    have HLF := Lib.hid hfl
    have HFI := Lib.hid hfi
    have HXL : Hid (xs.length = n) := HL
    clear hg hal hxl hnN hNN hN hfl hfi
    go_enter Try.func41, Try.ntmps41
    go_wp2_with fail
    (go_at_call 72; go_call (HC.out _ (by go_grown)) as e1 w1 ⟨rfl, hb1⟩; obtain ⟨hc1, hf1⟩ := bcell hb1; have hB1 : Below w.heap.size w w1 := (below_then (by first | (go_grown; done) | (repeat (first | (with_reducible assumption) | (with_reducible exact Below.refl _ _) | (with_reducible refine below_drewN' ?_ _) | (with_reducible refine Below.drew ?_) | ((with_reducible refine Below.alloc ?_ ?_ _); rotate_left; focus (first | (simp; done) | (simp; omega) | omega)) | ((with_reducible refine Below.setCell ?_ ?_ _); rotate_left; focus (first | (simp; done) | (simp; omega) | omega))))) (by first | omega | (simp; done) | (simp; omega)) hb1); have hz1a : w.heap.size < w1.heap.size := (by have := hb1.size; first | omega | (simp at this; omega)))
    go_wp2_with fail
    (go_at_call 63; with_reducible refine (HF.out _).mono ?_; rintro e2 w2 ⟨v2, rfl, ho2, hb2⟩; obtain ⟨hc2, hf2⟩ := bcell hb2; have hB2 : Below w.heap.size w w2 := (below_then (by first | (go_grown; done) | (repeat (first | (with_reducible assumption) | (with_reducible exact Below.refl _ _) | (with_reducible refine below_drewN' ?_ _) | (with_reducible refine Below.drew ?_) | ((with_reducible refine Below.alloc ?_ ?_ _); rotate_left; focus (first | (simp; done) | (simp; omega) | omega)) | ((with_reducible refine Below.setCell ?_ ?_ _); rotate_left; focus (first | (simp; done) | (simp; omega) | omega))))) (by first | omega | (simp; done) | (simp; omega)) hb2); have hz2a : w.heap.size < w2.heap.size := (by have := hb2.size; first | omega | (simp at this; omega)))
    obtain ⟨A2, c2, hv2, hr2⟩ := ho2.shape
    rw [HLF.out] at hv2 hr2
    subst hv2
    have HR2 := Lib.hid hr2
    clear ho2 hr2
    have hfd : ∀ w : World, (Instr.field 37 (.agg #[.int .i64 N, .int .i64 N, .slice A2 n c2]) 2).run Try.prog w = .ok (.slice A2 n c2) w := fun _ => by kernel_rfl
    go_wp2_with fail
    have HRx := Lib.hid ((HR.out.below hB2).cells)
    have HRf := Lib.hid HR2.out.cells
    have hBw := Lib.hid hB2
    have HGb : Hid (w2.heap[w.heap.size]? = some (.cells #[.int .i64 N, .int .i64 N, .slice A n cp] 37 (0, 0))) := Lib.hid (blk_below (blk_below (heap_alloc_new _ _) hb1 (by simp)) hb2 (by omega))
    clear hc1 hf1 hb1 hB1 hfd hc2 hf2 hb2
    go_loop [4, 15] (fun q i => ∃ k : Nat, k ≤ n ∧ i = .int .i64 k ∧ q = .int .i64 (cnt2 ferrP fs xs k : Nat)) (fun _ i => n - (intOf i).toNat)
    case atStart => exact ⟨0, Nat.zero_le _, rfl, rfl⟩
    case round =>
      obtain ⟨k, hk, rfl, rfl⟩ := hrel
      have hle := cnt2_le ferrP fs xs k
      have hst : cnt2 ferrP fs xs (k + 1) = cnt2 ferrP fs xs k + if ferrP (nth fs k) (nth xs k) then 1 else 0 := rfl
      have HS := Lib.hid hst
      clear hst
      generalize hqq : cnt2 ferrP fs xs k = q at hle HS
      have HQ := Lib.hid hqq
      clear hqq
      by_cases hlt : k < n
      · obtain ⟨b, o, rfl, hb, hc⟩ := HRx.out (by omega)
        obtain ⟨b', o', rfl, hb', hc'⟩ := HRf.out (by omega)
        have hck := hc k hlt
        have hck' := hc' k hlt
        have hf1 := HFI.out k hlt
        have hx1 := allIn_nth HA.out (k := k) (by rw [HL.out]; exact hlt)
        obtain ⟨z0, z1, z2, -⟩ := blk3 HGb.out
        clear hc hc'
        generalize nth fs k = f at hck' hf1 HS
        generalize nth xs k = x at hck hx1 HS
        by_cases h0 : 0 ≤ f
        · by_cases hq : x = 1 - f
          · subst hq
            go_wp2_with fail
            go_round
            case rel => exact ⟨k + 1, by omega, by go_num, by rw [HS.out, show ferrP f (1 - f) = true from by simp [ferrP]; omega]; simp⟩
            case measure => simp [intOf]; omega
          · have hq' : (x == 1 - f) = false := by simpa using hq
            go_wp2_with fail
            go_round
            case rel => exact ⟨k + 1, by omega, by go_num, by rw [HS.out, show ferrP f x = false from by simp [ferrP]; omega]; simp⟩
            case measure => simp [intOf]; omega
        · have h0' : decide (0 ≤ f) = false := decide_eq_false h0
          go_wp2_with fail
          go_round
          case rel => exact ⟨k + 1, by omega, by go_num, by rw [HS.out]; simp [ferrP, h0]⟩
          case measure => simp [intOf]; omega
      · have hkn : k = n := by omega
        have hA : cnt2 ferrP fs xs xs.length = q := by rw [HL.out, ← hkn]; exact HQ.out
        have HA := Lib.hid hA
        clear hA hkn
        go_wp2_with fail
        go_returns
        exact ⟨by rw [HA.out]; simp, hBw.out⟩
end Go.Proofs.Yteghpageamehkaa
namespace Go.Proofs.Yteghpageamehkaa
set_option linter.unusedSimpArgs false
open Go.RowKit

def teC (r c : Int) (xs : List Int) (v : Int) : Int := bif sqB r c xs then (bif inR v 1 8 then 0 else 2) else 1
def teE (r c : Int) (xs : List Int) (v : Int) : List Int := bif sqB r c xs then (bif inR v 1 8 then elL (atL r.toNat xs (dataL r.toNat)) v.toNat ((dataL r.toNat).length / v.toNat) else []) else []
def teU (r c : Int) (xs : List Int) (v : Int) : List Int := bif sqB r c xs then (bif inR v 1 8 then unL (atL r.toNat xs (dataL r.toNat)) v.toNat ((dataL r.toNat).length / v.toNat) else []) else []
theorem te_le (r c : Int) (xs : List Int) (v : Int) : (teE r c xs v).length ≤ 1640 ∧ (teU r c xs v).length ≤ 1640 := by
  unfold teE teU
  cases hs : sqB r c xs
  · simp
  · obtain ⟨N, rfl, rfl, hN, hl, _⟩ := sqB_true hs
    cases inR v 1 8
    · simp
    · simp only [cond_true]
      have h1 := dataL_le hN.2.1
      have h2 := unL_len (atL (N : Int).toNat xs (dataL (N : Int).toNat)) v.toNat ((dataL (N : Int).toNat).length / v.toNat)
      have h3 := Nat.div_le_self (dataL (N : Int).toNat).length v.toNat
      rw [elL_len]
      simp only [Int.toNat_natCast] at h1 h2 h3 ⊢
      omega
theorem TwoI.nil (w : World) (B : Nat) : TwoI w B (.slice none 0 0) [] (.slice none 0 0) [] := ⟨Own.nil, Own.nil, fun k h => by simp [Value.ownBlock] at h⟩
set_option maxHeartbeats 4000000 in
theorem TakeElements_any (r c : Int) (A : Option Addr) (n cp : Nat) (xs : List Int) (v : Int) (w : World) (B : Nat) (hr : RI w B A n xs) (hB : B ≤ w.heap.size) (hn : n ≤ 1000000000000000) :
    Calls Try.prog 36 #[.agg #[.int .i64 r, .int .i64 c, .slice A n cp], .int .i64 v] w fun e w' =>
      ∃ u1 u2, e = .returned (.tuple #[u1, u2, .int .i64 (teC r c xs v)]) ∧ TwoI w' w.heap.size u1 (teE r c xs v) u2 (teU r c xs v) ∧ Below w.heap.size w w' := by
  have HR := Lib.hid (hr.more hB)
  have HC := Lib.hid (fun w' (hb : Below w.heap.size w w') => isMatrix_any r c A n cp xs w' w.heap.size (HR.out.below hb) hb.size hn)
  have hlen := hr.len
  clear hr
  unfold teC teE teU
  cases hs : sqB r c xs
  · rw [hs] at HC
    go_enter Try.func36, Try.ntmps36
    go_wp2_with (go_at_call 72; go_call (HC.out _ (by go_grown)) as e1 w1 ⟨rfl, hb1⟩; obtain ⟨hc1, hf1⟩ := bcell hb1; have hB1 : Below w.heap.size w w1 := (below_then (by first | (go_grown; done) | (repeat (first | (with_reducible assumption) | (with_reducible exact Below.refl _ _) | (with_reducible refine below_drewN' ?_ _) | (with_reducible refine Below.drew ?_) | ((with_reducible refine Below.alloc ?_ ?_ _); rotate_left; focus (first | (simp; done) | (simp; omega) | omega)) | ((with_reducible refine Below.setCell ?_ ?_ _); rotate_left; focus (first | (simp; done) | (simp; omega) | omega))))) (by first | omega | (simp; done) | (simp; omega)) hb1); have hz1a : w.heap.size < w1.heap.size := (by have := hb1.size; first | omega | (simp at this; omega)))
    first | go_ret | go_returns
    exact ⟨.slice none 0 0, .slice none 0 0, by simp, by simpa using TwoI.nil _ _, by (repeat (first | (with_reducible assumption) | (with_reducible exact Below.refl _ _) | (with_reducible refine below_drewN' ?_ _) | (with_reducible refine Below.drew ?_) | ((with_reducible refine Below.alloc ?_ ?_ _); rotate_left; focus (first | (simp; done) | (simp; omega) | omega)) | ((with_reducible refine Below.setCell ?_ ?_ _); rotate_left; focus (first | (simp; done) | (simp; omega) | omega))))⟩
  rw [hs] at HC
  cases hv : inR v 1 8
  · go_enter Try.func36, Try.ntmps36
    go_wp2_with first | (go_at_call 53; refine (inRange_any _ _ _ _).mono ?_; rintro e w' ⟨rfl, rfl⟩) | (go_at_call 72; go_call (HC.out _ (by go_grown)) as e1 w1 ⟨rfl, hb1⟩; obtain ⟨hc1, hf1⟩ := bcell hb1; have hB1 : Below w.heap.size w w1 := (below_then (by first | (go_grown; done) | (repeat (first | (with_reducible assumption) | (with_reducible exact Below.refl _ _) | (with_reducible refine below_drewN' ?_ _) | (with_reducible refine Below.drew ?_) | ((with_reducible refine Below.alloc ?_ ?_ _); rotate_left; focus (first | (simp; done) | (simp; omega) | omega)) | ((with_reducible refine Below.setCell ?_ ?_ _); rotate_left; focus (first | (simp; done) | (simp; omega) | omega))))) (by first | omega | (simp; done) | (simp; omega)) hb1); have hz1a : w.heap.size < w1.heap.size := (by have := hb1.size; first | omega | (simp at this; omega)))
    first | go_ret | go_returns
    exact ⟨.slice none 0 0, .slice none 0 0, by simp, by simpa using TwoI.nil _ _, by (repeat (first | (with_reducible assumption) | (with_reducible exact Below.refl _ _) | (with_reducible refine below_drewN' ?_ _) | (with_reducible refine Below.drew ?_) | ((with_reducible refine Below.alloc ?_ ?_ _); rotate_left; focus (first | (simp; done) | (simp; omega) | omega)) | ((with_reducible refine Below.setCell ?_ ?_ _); rotate_left; focus (first | (simp; done) | (simp; omega) | omega))))⟩
  · obtain ⟨N, rfl, rfl, hN, hl, hal⟩ := sqB_true hs
    have hvr := inR_true hv
    obtain ⟨V, rfl⟩ := Int.eq_ofNat_of_zero_le (show 0 ≤ v by omega)
    have hN0 : 0 < N * N := Nat.mul_pos (by omega) (by omega)
    have hnN : n = N * N := by omega
    subst hnN
    obtain ⟨b, o, rfl, -, -⟩ := HR.out.cells hN0
    have HT := Lib.hid (fun (w' : World) (hb : Below w.heap.size w w') => takeElements_any N b o cp V xs w' w.heap.size hN (by omega) (HR.out.below hb) hb.size hl hal)
    simp only [cond_true, Int.toNat_natCast]
    generalize elL (atL N xs (dataL N)) V ((dataL N).length / V) = L1 at HT ⊢
    generalize unL (atL N xs (dataL N)) V ((dataL N).length / V) = L2 at HT ⊢
    clear hal hl hlen hs
    go_enter Try.func36, Try.ntmps36
    go_wp2_with fail
    (go_at_call 72; go_call (HC.out _ (by go_grown)) as e1 w1 ⟨rfl, hb1⟩; obtain ⟨hc1, hf1⟩ := bcell hb1; have hB1 : Below w.heap.size w w1 := (below_then (by first | (go_grown; done) | (repeat (first | (with_reducible assumption) | (with_reducible exact Below.refl _ _) | (with_reducible refine below_drewN' ?_ _) | (with_reducible refine Below.drew ?_) | ((with_reducible refine Below.alloc ?_ ?_ _); rotate_left; focus (first | (simp; done) | (simp; omega) | omega)) | ((with_reducible refine Below.setCell ?_ ?_ _); rotate_left; focus (first | (simp; done) | (simp; omega) | omega))))) (by first | omega | (simp; done) | (simp; omega)) hb1); have hz1a : w.heap.size < w1.heap.size := (by have := hb1.size; first | omega | (simp at this; omega)))
    have HX1 := Lib.hid (blk_below (heap_alloc_new w (.cells #[.int .i64 (N : Int), .int .i64 (N : Int), .slice (some ⟨b, o, none⟩) (N * N) cp] 37)) hb1 (by simp))
    obtain ⟨y0, y1, y2, -⟩ := blk3 HX1.out
    clear hc1 hf1
    go_wp2_with (go_at_call 53; refine (inRange_any _ _ _ _).mono ?_; rintro e w' ⟨rfl, rfl⟩)
    go_at_call 73
    with_reducible refine (HT.out _ hB1).mono ?_
    rintro e2 w2 ⟨v1, v2, rfl, hT, hb2⟩
    have hB2 := hB1.trans (hb2.mono (by have := hb1.size; simp at this; omega))
    have HT2 := Lib.hid (hT.more (B' := w.heap.size) (by have := hb1.size; simp at this; omega))
    clear hT hb2
    go_wp2_with fail
    first | go_ret | go_returns
    exact ⟨_, _, rfl, HT2.out, hB2⟩
set_option maxHeartbeats 4000000 in
theorem sTakeElements_any (r c : Int) (A : Option Addr) (n cp : Nat) (xs : List Int) (v : Int) (w : World) (B : Nat) (hr : RI w B A n xs) (hB : B ≤ w.heap.size) (hn : n ≤ 1000000000000000) :
    Calls Try.prog 34 #[.agg #[.int .i64 r, .int .i64 c, .slice A n cp], .int .i64 v] w fun e w' =>
      ∃ u1 u2, e = .returned (.tuple #[u1, u2, .int .i64 (teC r c xs v)]) ∧ TwoI w' w.heap.size u1 (teE r c xs v) u2 (teU r c xs v) ∧ Below w.heap.size w w' := by
  have HR := Lib.hid (hr.more hB)
  have HC := Lib.hid (fun w' (hb : Below w.heap.size w w') => l14Square_any r c A n cp xs w' w.heap.size (HR.out.below hb) hb.size hn)
  have hlen := hr.len
  clear hr
  unfold teC teE teU
  cases hs : sqB r c xs
  · rw [hs] at HC
    go_enter Try.func34, Try.ntmps34
    go_wp2_with (go_at_call 70; go_call (HC.out _ (by go_grown)) as e1 w1 ⟨rfl, hb1⟩; obtain ⟨hc1, hf1⟩ := bcell hb1; have hB1 : Below w.heap.size w w1 := (below_then (by first | (go_grown; done) | (repeat (first | (with_reducible assumption) | (with_reducible exact Below.refl _ _) | (with_reducible refine below_drewN' ?_ _) | (with_reducible refine Below.drew ?_) | ((with_reducible refine Below.alloc ?_ ?_ _); rotate_left; focus (first | (simp; done) | (simp; omega) | omega)) | ((with_reducible refine Below.setCell ?_ ?_ _); rotate_left; focus (first | (simp; done) | (simp; omega) | omega))))) (by first | omega | (simp; done) | (simp; omega)) hb1); have hz1a : w.heap.size < w1.heap.size := (by have := hb1.size; first | omega | (simp at this; omega)))
    first | go_ret | go_returns
    exact ⟨.slice none 0 0, .slice none 0 0, by simp, by simpa using TwoI.nil _ _, by (repeat (first | (with_reducible assumption) | (with_reducible exact Below.refl _ _) | (with_reducible refine below_drewN' ?_ _) | (with_reducible refine Below.drew ?_) | ((with_reducible refine Below.alloc ?_ ?_ _); rotate_left; focus (first | (simp; done) | (simp; omega) | omega)) | ((with_reducible refine Below.setCell ?_ ?_ _); rotate_left; focus (first | (simp; done) | (simp; omega) | omega))))⟩
  rw [hs] at HC
  cases hv : inR v 1 8
  · go_enter Try.func34, Try.ntmps34
    go_wp2_with first | (go_at_call 56; refine (l15Width_any _ _).mono ?_; rintro e w' ⟨rfl, rfl⟩) | (go_at_call 70; go_call (HC.out _ (by go_grown)) as e1 w1 ⟨rfl, hb1⟩; obtain ⟨hc1, hf1⟩ := bcell hb1; have hB1 : Below w.heap.size w w1 := (below_then (by first | (go_grown; done) | (repeat (first | (with_reducible assumption) | (with_reducible exact Below.refl _ _) | (with_reducible refine below_drewN' ?_ _) | (with_reducible refine Below.drew ?_) | ((with_reducible refine Below.alloc ?_ ?_ _); rotate_left; focus (first | (simp; done) | (simp; omega) | omega)) | ((with_reducible refine Below.setCell ?_ ?_ _); rotate_left; focus (first | (simp; done) | (simp; omega) | omega))))) (by first | omega | (simp; done) | (simp; omega)) hb1); have hz1a : w.heap.size < w1.heap.size := (by have := hb1.size; first | omega | (simp at this; omega)))
    first | go_ret | go_returns
    exact ⟨.slice none 0 0, .slice none 0 0, by simp, by simpa using TwoI.nil _ _, by (repeat (first | (with_reducible assumption) | (with_reducible exact Below.refl _ _) | (with_reducible refine below_drewN' ?_ _) | (with_reducible refine Below.drew ?_) | ((with_reducible refine Below.alloc ?_ ?_ _); rotate_left; focus (first | (simp; done) | (simp; omega) | omega)) | ((with_reducible refine Below.setCell ?_ ?_ _); rotate_left; focus (first | (simp; done) | (simp; omega) | omega))))⟩
  · obtain ⟨N, rfl, rfl, hN, hl, hal⟩ := sqB_true hs
    have hvr := inR_true hv
    obtain ⟨V, rfl⟩ := Int.eq_ofNat_of_zero_le (show 0 ≤ v by omega)
    have hN0 : 0 < N * N := Nat.mul_pos (by omega) (by omega)
    have hnN : n = N * N := by omega
    subst hnN
    obtain ⟨b, o, rfl, -, -⟩ := HR.out.cells hN0
    have HT := Lib.hid (fun (w' : World) (hb : Below w.heap.size w w') => l15Take_any N b o cp V xs w' w.heap.size hN (by omega) (HR.out.below hb) hb.size hl hal)
    simp only [cond_true, Int.toNat_natCast]
    generalize elL (atL N xs (dataL N)) V ((dataL N).length / V) = L1 at HT ⊢
    generalize unL (atL N xs (dataL N)) V ((dataL N).length / V) = L2 at HT ⊢
    clear hal hl hlen hs
    go_enter Try.func34, Try.ntmps34
    go_wp2_with fail
    (go_at_call 70; go_call (HC.out _ (by go_grown)) as e1 w1 ⟨rfl, hb1⟩; obtain ⟨hc1, hf1⟩ := bcell hb1; have hB1 : Below w.heap.size w w1 := (below_then (by first | (go_grown; done) | (repeat (first | (with_reducible assumption) | (with_reducible exact Below.refl _ _) | (with_reducible refine below_drewN' ?_ _) | (with_reducible refine Below.drew ?_) | ((with_reducible refine Below.alloc ?_ ?_ _); rotate_left; focus (first | (simp; done) | (simp; omega) | omega)) | ((with_reducible refine Below.setCell ?_ ?_ _); rotate_left; focus (first | (simp; done) | (simp; omega) | omega))))) (by first | omega | (simp; done) | (simp; omega)) hb1); have hz1a : w.heap.size < w1.heap.size := (by have := hb1.size; first | omega | (simp at this; omega)))
    have HX1 := Lib.hid (blk_below (heap_alloc_new w (.cells #[.int .i64 (N : Int), .int .i64 (N : Int), .slice (some ⟨b, o, none⟩) (N * N) cp] 37)) hb1 (by simp))
    obtain ⟨y0, y1, y2, -⟩ := blk3 HX1.out
    clear hc1 hf1
    go_wp2_with (go_at_call 56; refine (l15Width_any _ _).mono ?_; rintro e w' ⟨rfl, rfl⟩)
    go_at_call 71
    with_reducible refine (HT.out _ hB1).mono ?_
    rintro e2 w2 ⟨v1, v2, rfl, hT, hb2⟩
    have hB2 := hB1.trans (hb2.mono (by have := hb1.size; simp at this; omega))
    have HT2 := Lib.hid (hT.more (B' := w.heap.size) (by have := hb1.size; simp at this; omega))
    clear hT hb2
    go_wp2_with fail
    first | go_ret | go_returns
    exact ⟨_, _, rfl, HT2.out, hB2⟩
end Go.Proofs.Yteghpageamehkaa
namespace Go.Proofs.Yteghpageamehkaa
open Go.RowKit

/-- The places of the unknown ones among the first k cells of N columns. -/
def unkP (N : Nat) (xs : List Int) : Nat → List (Int × Int)
  | 0 => []
  | k + 1 => bif decide (nth xs k < 0) then unkP N xs k ++ [(((k / N : Nat) : Int), ((k % N : Nat) : Int))] else unkP N xs k
theorem unkP_len (N : Nat) (xs : List Int) : ∀ k, (unkP N xs k).length ≤ k := by
  intro k
  induction k with
  | zero => simp [unkP]
  | succ k ih => simp only [unkP]; cases decide (nth xs k < 0) <;> simp <;> omega
theorem unkP_mem {N : Nat} {xs : List Int} {p : Int × Int} : ∀ {k : Nat}, p ∈ unkP N xs k ↔ ∃ j, j < k ∧ nth xs j < 0 ∧ p = (((j / N : Nat) : Int), ((j % N : Nat) : Int)) := by
  intro k
  induction k with
  | zero => simp [unkP]
  | succ k ih =>
    have key : p ∈ unkP N xs (k + 1) ↔ (p ∈ unkP N xs k ∨ (nth xs k < 0 ∧ p = (((k / N : Nat) : Int), ((k % N : Nat) : Int)))) := by
      simp only [unkP]
      by_cases h : nth xs k < 0
      · rw [decide_eq_true h]; simp [h]
      · rw [decide_eq_false h]; simp [h]
    rw [key, ih]
    constructor
    · rintro (⟨j, hj, h⟩ | h)
      · exact ⟨j, by omega, h⟩
      · exact ⟨k, by omega, h⟩
    · rintro ⟨j, hj, h⟩
      by_cases hjk : j = k
      · subst hjk; exact .inr h
      · exact .inl ⟨j, by omega, h⟩
theorem unL_idx (cs : List Int) (K : Nat) : ∀ m, unL cs K m = idxL (fun e => decide (tkV cs (e * K) K < 0)) m := by
  intro m
  induction m with
  | zero => rfl
  | succ m ih => simp only [unL, idxL]; rw [ih]
theorem tkV_neg {cs : List Int} {a : Nat} : ∀ j, tkV cs a j < 0 ↔ ∃ t, t < j ∧ nth cs (a + t) < 0 := by
  intro j
  induction j with
  | zero => simp [tkV]
  | succ j ih =>
    have key : tkV cs a (j + 1) < 0 ↔ (tkV cs a j < 0 ∨ nth cs (a + j) < 0) := by
      simp only [tkV, tkS]
      generalize tkV cs a j = x
      generalize nth cs (a + j) = c
      by_cases hc : c < 0
      · rw [decide_eq_true hc]; simp [hc]
      · by_cases hx : x < 0
        · rw [decide_eq_false hc, decide_eq_true hx]; simp [hx]
        · rw [decide_eq_false hc, decide_eq_false hx]; simp [hc, hx]; omega
    rw [key, ih]
    constructor
    · rintro (⟨t, ht, h⟩ | h)
      · exact ⟨t, by omega, h⟩
      · exact ⟨j, by omega, h⟩
    · rintro ⟨t, ht, h⟩
      by_cases htj : t = j
      · subst htj; exact .inr h
      · exact .inl ⟨t, by omega, h⟩
theorem mem_nthP {ps : List (Int × Int)} {p : Int × Int} : p ∈ ps ↔ ∃ j, j < ps.length ∧ nthP ps j = p := by
  constructor
  · intro h
    obtain ⟨j, hj, h2⟩ := List.getElem_of_mem h
    exact ⟨j, hj, by rw [nthP_lt hj]; exact h2⟩
  · rintro ⟨j, hj, rfl⟩
    exact nthP_mem hj
theorem idxP_nat {N R C : Nat} : idxP N ((R : Int), (C : Int)) = R * N + C := by
  unfold idxP
  simp only
  have : (R : Int) * N + C = ((R * N + C : Nat) : Int) := by simp
  rw [this, Int.toNat_natCast]
theorem touched_fact {r c d : Int} {xs : List Int} (h : teC r c xs d = 0) :
    ∃ N : Nat, r = N ∧ c = N ∧ 17 ≤ N ∧ N ≤ 41 ∧ xs.length = N * N ∧ tuC N d (unkP N xs (N * N)) = 0 ∧ tuL N d (unkP N xs (N * N)) = teU N N xs d := by
  revert h
  unfold teC
  cases hs : sqB r c xs
  · simp
  cases hd : inR d 1 8
  · simp
  intro _
  obtain ⟨N, rfl, rfl, hN, hl, hal⟩ := sqB_true hs
  refine ⟨N, rfl, rfl, hN.1, hN.2.1, hl, ?_⟩
  have hdr := inR_true hd
  obtain ⟨K, rfl⟩ := Int.eq_ofNat_of_zero_le (show 0 ≤ d by omega)
  have hK : 0 < K := by omega
  have hNN : N * N ≤ 1681 := Nat.mul_le_mul hN.2.1 hN.2.1
  have hul := unkP_len N xs (N * N)
  have hsz : sizeB (N : Int) = true := by simp only [sqB, Bool.and_eq_true] at hs; exact hs.2
  unfold tuC tuL teU
  rw [hsz, hd, hs, decide_eq_true (show (unkP N xs (N * N)).length ≤ 40000 by omega)]
  simp only [cond_true, Int.toNat_natCast, true_and]
  rw [unL_idx]
  refine idxL_congr fun e he => ?_
  have hq : (dataL N).length / K * K ≤ (dataL N).length := Nat.div_mul_le_self _ _
  have heK : e * K + K ≤ (dataL N).length := by
    have := Nat.mul_le_mul_right K (show e + 1 ≤ (dataL N).length / K by omega)
    rw [Nat.succ_mul] at this; omega
  have hb : ∀ {a b : Bool}, (a = true ↔ b = true) → a = b := by decide
  apply hb
  rw [tchB_iff he, decide_eq_true_eq, tkV_neg]
  constructor
  · rintro ⟨j, hj, i, hi, rfl⟩
    obtain ⟨k, rfl, hk, hk2⟩ := ixL_some hi
    obtain ⟨l, hl1, hl2, hl3⟩ := unkP_mem.1 (nthP_mem hj)
    rw [hl3] at hk2
    refine ⟨k % K, Nat.mod_lt _ hK, ?_⟩
    rw [Int.toNat_natCast, show k / K * K + k % K = k from (by rw [Nat.mul_comm]; exact Nat.div_add_mod k K), atL_nth hk, hk2]
    have h2 := idxP_nat (N := N) (R := l / N) (C := l % N)
    rw [h2, show l / N * N + l % N = l from (by rw [Nat.mul_comm]; exact Nat.div_add_mod l N)]
    exact hl2
  · rintro ⟨t, ht, h2⟩
    have hk : e * K + t < (dataL N).length := by omega
    rw [atL_nth hk] at h2
    have h4 := data_in4 hN _ (nthP_mem hk)
    have h5 := idxP_lt h4
    have h6 : nthP (dataL N) (e * K + t) ∈ unkP N xs (N * N) := by
      refine unkP_mem.2 ⟨idxP N (nthP (dataL N) (e * K + t)), h5.1, h2, ?_⟩
      generalize nthP (dataL N) (e * K + t) = p at h4
      obtain ⟨a, b⟩ := p
      simp only at h4
      obtain ⟨R, rfl⟩ := Int.eq_ofNat_of_zero_le h4.1
      obtain ⟨C, rfl⟩ := Int.eq_ofNat_of_zero_le h4.2.1
      rw [idxP_nat, (cell_div (N := N) (r := R) (c := C) (by omega)).1, (cell_div (N := N) (r := R) (c := C) (by omega)).2]
    obtain ⟨j, hj, h7⟩ := mem_nthP.1 h6
    refine ⟨j, hj, ((e * K + t : Nat) : Int), ?_, ?_⟩
    · rw [h7]
      exact ix_found hN hk (eqP_iff.2 rfl)
    · rw [Int.toNat_natCast, Nat.mul_comm, Nat.mul_add_div hK, Nat.div_eq_of_lt ht, Nat.add_zero]
end Go.Proofs.Yteghpageamehkaa
namespace Go.Proofs.Yteghpageamehkaa
open Go.RowKit

def Mkr.own (xs : List Int) : Mkr where
  R v lo hi w := Own w lo v xs ∧ ∀ k, v.ownBlock = some k → k < hi
  keep := fun ⟨h, hlt⟩ _ hb => by
    refine ⟨⟨h.1, ?_⟩, hlt⟩
    rcases h.2 with h' | ⟨g, cap, cur, rfl, hB, hg, hr⟩
    · exact .inl h'
    · exact .inr ⟨g, cap, cur, rfl, hB, (hb.block g (hlt g rfl)).trans hg, hr⟩
theorem own_call {P : Program} {f : FuncId} {args : Array Value} {w : World} {xs : List Int}
    (h : Calls P f args w fun e w' => ∃ v', e = .returned v' ∧ Own w' w.heap.size v' xs ∧ Below w.heap.size w w') :
    Calls P f args w fun e w' => ∃ u, e = .returned u ∧ Below w.heap.size w w' ∧ (Mkr.own xs).R u w.heap.size w'.heap.size w' :=
  h.mono fun _ _ ⟨v', h1, h2, h3⟩ => ⟨v', h1, h3, h2, fun k hk => (World.ownsRow.lt h2 k hk).2⟩
end Go.Proofs.Yteghpageamehkaa
namespace Go.Proofs.Yteghpageamehkaa
set_option linter.unusedSimpArgs false
open Go.ChangeShapes Go.WideShapes Go.ChangeAt Go.RowKit Go.Deep

theorem two_news {w : World} {g : Nat} {a b : Int} (h0 : w.cell? ⟨g, 0, none⟩ = some (.int .i64 a)) (h1 : w.cell? ⟨g, 1, none⟩ = some (.int .i64 b)) :
    ∀ j u, (pc [(a, b)])[j]? = some u → w.cell? ((⟨g, 0, none⟩ : Addr).add j) = some u := by
  intro j u hu
  match j, hu with
  | 0, hu => simp [pc] at hu; subst hu; exact h0
  | 1, hu => simp [pc] at hu; subst hu; exact h1
  | j + 2, hu => simp [pc] at hu
theorem likeI_eq (A1 A2 : Option Addr) (n1 n2 c1 c2 : Nat) (xs : List Int) (w : World) (B1 B2 : Nat) (hr1 : RI w B1 A1 n1 xs) (hr2 : RI w B2 A2 n2 xs) (hn : n1 ≤ 1000000000000) (hn2 : n2 ≤ 1000000000000) :
    Calls Try.prog 42 #[.slice A1 n1 c1, .slice A2 n2 c2] w fun e w' => e = .returned (.bool true) ∧ Below w.heap.size w w' :=
  (likeInts_any A1 A2 n1 n2 c1 c2 xs xs w B1 B2 hr1 hr2 hn hn2).mono fun e w' ⟨h1, m, h2⟩ => ⟨by rw [h1]; simp, by subst h2; exact below_drewN' (Below.refl _ _) m⟩
set_option maxRecDepth 20000 in
set_option maxHeartbeats 4000000 in
theorem lawFnTouched (A : Option Addr) (n c : Nat) (bs : List Int) (w : World) (hr : RB w w.heap.size A n bs) :
    Calls Try.prog 9 #[.slice A n c] w fun e' w' => e' = .returned (.bool true) ∧ Below w.heap.size w w' := by
  have HR := Lib.hid hr
  clear hr
  by_cases hbig : 4096 < n
  · have hbd : decide (4096 < n) = true := decide_eq_true hbig
    go_enter Try.func9, Try.ntmps9
    go_wp2_with (go_at_call 11; go_call (big_any _ _ _ _) as e0 w0 ⟨rfl, hb0⟩; obtain ⟨hc0, hf0⟩ := bcell hb0; have hB0 : Below w.heap.size w w0 := (below_then (by first | (go_grown; done) | (repeat (first | (with_reducible assumption) | (with_reducible exact Below.refl _ _) | (with_reducible refine below_drewN' ?_ _) | (with_reducible refine Below.drew ?_) | ((with_reducible refine Below.alloc ?_ ?_ _); rotate_left; focus (first | (simp; done) | (simp; omega) | omega)) | ((with_reducible refine Below.setCell ?_ ?_ _); rotate_left; focus (first | (simp; done) | (simp; omega) | omega))))) (by first | omega | (simp; done) | (simp; omega)) hb0))
    go_ret
    exact ⟨rfl, by (repeat (first | (with_reducible assumption) | (with_reducible exact Below.refl _ _) | (with_reducible refine below_drewN' ?_ _) | (with_reducible refine Below.drew ?_) | ((with_reducible refine Below.alloc ?_ ?_ _); rotate_left; focus (first | (simp; done) | (simp; omega) | omega)) | ((with_reducible refine Below.setCell ?_ ?_ _); rotate_left; focus (first | (simp; done) | (simp; omega) | omega))))⟩
  · have hbd : decide (4096 < n) = false := decide_eq_false hbig
    have HD := Lib.hid (fun (w' : World) (hb : Below w.heap.size w w') => DrawTakeElements_any A n c bs w.heap.size w' (HR.out.below hb) hb.size (by omega))
    go_enter Try.func9, Try.ntmps9
    go_wp2_with first | (go_at_call 11; go_call (big_any _ _ _ _) as e0 w0 ⟨rfl, hb0⟩; obtain ⟨hc0, hf0⟩ := bcell hb0; have hB0 : Below w.heap.size w w0 := (below_then (by first | (go_grown; done) | (repeat (first | (with_reducible assumption) | (with_reducible exact Below.refl _ _) | (with_reducible refine below_drewN' ?_ _) | (with_reducible refine Below.drew ?_) | ((with_reducible refine Below.alloc ?_ ?_ _); rotate_left; focus (first | (simp; done) | (simp; omega) | omega)) | ((with_reducible refine Below.setCell ?_ ?_ _); rotate_left; focus (first | (simp; done) | (simp; omega) | omega))))) (by first | omega | (simp; done) | (simp; omega)) hb0))
    go_at_call 43
    with_reducible refine (HD.out _ hB0).mono ?_
    rintro e1 w1 ⟨u1, rfl, ⟨g, d, rfl, r, cc, v, xs, rfl, hx1, hx2, ho1⟩, hb1⟩
    have HB1 := Lib.hid (hB0.trans (hb1.mono hB0.size))
    obtain ⟨A1, c1, rfl, hr1⟩ := ho1.shape
    obtain ⟨T, hT⟩ : ∃ T, xs.length = T := ⟨_, rfl⟩
    rw [hT] at hx1 hx2 hr1 ⊢
    have HT := Lib.hid hT
    have hs1 := HB1.out.size
    have hle := te_le r cc xs d
    have P1 := fun (w : World) (B : Nat) (hr : RI w B A1 T xs) (hB : B ≤ w.heap.size) => TakeElements_any r cc A1 T c1 xs d w B hr hB (by omega)
    have P2 := fun (w : World) (B : Nat) (hr : RI w B A1 T xs) (hB : B ≤ w.heap.size) => sTakeElements_any r cc A1 T c1 xs d w B hr hB (by omega)
    have hpf := Lib.hid (fun h => touched_fact (r := r) (c := cc) (d := d) (xs := xs) h)
    generalize teE r cc xs d = es at hle P1 P2
    obtain ⟨us, hus⟩ : ∃ us, teU r cc xs d = us := ⟨_, rfl⟩
    rw [hus] at hle P1 P2
    have HUS := Lib.hid hus
    generalize teC r cc xs d = C at P1 P2 hpf
    obtain ⟨L1, hL1⟩ : ∃ L, es.length = L := ⟨_, rfl⟩
    obtain ⟨L2, hL2⟩ : ∃ L, us.length = L := ⟨_, rfl⟩
    rw [hL1, hL2] at hle
    obtain ⟨hle1, hle2⟩ := hle
    have HL1 := Lib.hid hL1
    have HL2 := Lib.hid hL2
    have HP1 := Lib.hid P1
    have HP2 := Lib.hid P2
    have h1 : (C != C) = false := by simp
    have HX1 : Hid ((w1.alloc (.cells #[.int .i64 r, .int .i64 cc, .slice A1 T c1] 37)).heap[w1.heap.size]? = some (.cells #[.int .i64 r, .int .i64 cc, .slice A1 T c1] 37 (0, 0))) := Lib.hid (heap_alloc_new _ _)
    have HR1 := Lib.hid (hr1.alloc (Nat.le_refl _) (.cells #[.int .i64 r, .int .i64 cc, .slice A1 T c1] 37))
    have HB1' := Lib.hid (HB1.out.alloc hs1 (.cells #[.int .i64 r, .int .i64 cc, .slice A1 T c1] 37))
    clear hb0 hb1 hB0 hc0 hf0 P1 P2 hL1 hL2 hT hus hr1 ho1
    go_wp2_with fail
    go_at_call 36
    with_reducible refine (HP1.out _ _ HR1.out (by simp)).mono ?_
    rintro e2 w2 ⟨va, vb, rfl, hT2, hb2⟩
    obtain ⟨Aa, ca, rfl, hra⟩ := hT2.1.shape
    obtain ⟨Ab, cb, rfl, hrb⟩ := hT2.2.1.shape
    rw [HL1.out] at hra ⊢
    rw [HL2.out] at hrb ⊢
    have hs2 := hb2.size
    simp only [World.size_alloc] at hs2
    have HX2 := Lib.hid (blk_below HX1.out hb2 (by simp))
    have HR2 := Lib.hid (HR1.out.below (hb2.mono (by simp)))
    have HRa2 := Lib.hid hra
    have HRb2 := Lib.hid hrb
    have HB2 := Lib.hid (HB1'.out.trans (hb2.mono (by simp; omega)))
    clear hT2 hra hrb hb2
    obtain ⟨a0, a1, a2, -⟩ := blk3 HX2.out
    go_wp2_with fail
    go_at_call 34
    with_reducible refine (HP2.out _ _ HR2.out (by omega)).mono ?_
    rintro e3 w3 ⟨vc, vd, rfl, hT3, hb3⟩
    obtain ⟨Ac, c3, rfl, hrc⟩ := hT3.1.shape
    obtain ⟨Ad, c4, rfl, hrd⟩ := hT3.2.1.shape
    rw [HL1.out] at hrc ⊢
    rw [HL2.out] at hrd ⊢
    have hs3 := hb3.size
    have HX3 := Lib.hid (blk_below HX2.out hb3 (by omega))
    have HR3 := Lib.hid (HR2.out.below (hb3.mono (by omega)))
    have HRa3 := Lib.hid (HRa2.out.below hb3)
    have HRb3 := Lib.hid (HRb2.out.below hb3)
    have HRc3 := Lib.hid hrc
    have HRd3 := Lib.hid hrd
    have HB3 := Lib.hid (HB2.out.trans (hb3.mono (by omega)))
    clear hT3 hrc hrd hb3 a0 a1 a2
    go_wp2_with fail
    go_at_call 42
    with_reducible refine (likeI_eq Aa Ac L1 L1 ca c3 es _ _ _ HRa3.out HRc3.out (by omega) (by omega)).mono ?_
    rintro e4 w4 ⟨rfl, hb4⟩
    have hs4 := hb4.size
    have HX4 := Lib.hid (blk_below HX3.out hb4 (by omega))
    have HR4 := Lib.hid (HR3.out.below (hb4.mono (by omega)))
    have HRb4 := Lib.hid (HRb3.out.below (hb4.mono (by omega)))
    have HRd4 := Lib.hid (HRd3.out.below hb4)
    have HB4 := Lib.hid (HB3.out.trans (hb4.mono (by omega)))
    clear hb4
    go_wp2_with fail
    go_at_call 42
    with_reducible refine (likeI_eq Ab Ad L2 L2 cb c4 us _ _ _ HRb4.out HRd4.out (by omega) (by omega)).mono ?_
    rintro e5 w5 ⟨rfl, hb5⟩
    have hs5 := hb5.size
    have HX5 := Lib.hid (blk_below HX4.out hb5 (by omega))
    have HR5 := Lib.hid (HR4.out.below (hb5.mono (by omega)))
    have HRb5 := Lib.hid (HRb4.out.below (hb5.mono (by omega)))
    have HB5 := Lib.hid (HB4.out.trans (hb5.mono (by omega)))
    clear hb5
    by_cases hC : C = 0
    · subst hC
      obtain ⟨N, rfl, rfl, hN1, hN2, hxl, htC, htL⟩ := hpf.out rfl
      rw [HUS.out] at htL
      have hTN : T = N * N := by rw [← HT.out, hxl]
      rw [← hTN] at htC htL
      have HTN := Lib.hid hTN
      have HtC := Lib.hid htC
      have HtL := Lib.hid htL
      obtain ⟨iP, hi⟩ := info_own' info_places
      have HP := Lib.hid (And.intro iP.bytes.le_refl hi)
      have hs15 : w1.heap.size < w5.heap.size := by omega
      have hN0 : ¬ N = 0 := by omega
      have HUL := Lib.hid (unkP_len N xs)
      clear hpf hxl hTN htC htL hi h1
      go_wp2_with fail
      have hE : Hid (OwnP (w5.alloc (.cells #[] 32)) w5.heap.size (.slice (some ⟨w5.heap.size, 0, none⟩) 0 0) (unkP N xs 0)) := Lib.hid (OwnP.empty w5 (Nat.le_refl _))
      have hE2 : Hid (Below w5.heap.size w5 (w5.alloc (.cells #[] 32))) := Lib.hid ((Below.refl _ _).alloc (Nat.le_refl _) _)
      go_loopw [11, 12] (fun p i wr => ∃ k : Nat, k ≤ T ∧ i = .int .i64 k ∧ Hid (OwnP wr w5.heap.size p (unkP N xs k)) ∧ Hid (Below w5.heap.size w5 wr)) (fun _ i _ => T - (intOf i).toNat)
      case atStart => exact ⟨0, Nat.zero_le _, rfl, hE, hE2⟩
      case round =>
        rename World => wq
        obtain ⟨k, hk, rfl, hown, hbel⟩ := hrel
        have hsq := hbel.out.size
        have HXq := Lib.hid (blk_below HX5.out hbel.out hs15)
        have HRq := Lib.hid (HR5.out.below (hbel.out.mono (Nat.le_of_lt hs15)))
        obtain ⟨z0, z1, z2, -⟩ := blk3 HXq.out
        by_cases hlt : k < T
        · obtain ⟨b, o, rfl, hb, hcl⟩ := HRq.out.cells (by omega)
          have hck := hcl k hlt
          have hst : unkP N xs (k + 1) = bif decide (nth xs k < 0) then unkP N xs k ++ [(((k / N : Nat) : Int), ((k % N : Nat) : Int))] else unkP N xs k := rfl
          have hul := HUL.out k
          generalize unkP N xs k = ps at hown hst hul
          generalize nth xs k = y at hck hst
          obtain ⟨Q, hQ⟩ : ∃ Q, k / N = Q := ⟨_, rfl⟩
          obtain ⟨R, hR⟩ : ∃ R, k % N = R := ⟨_, rfl⟩
          have hqw : IntKind.i64.wrap ((k : Int) / N) = (Q : Int) := by rw [← Int.natCast_ediv, hQ]; exact i64_in (by have := Nat.div_le_self k N; omega)
          have hrw : IntKind.i64.wrap ((k : Int) % N) = (R : Int) := by rw [← Int.natCast_emod, hR]; exact i64_in (by have := Nat.mod_le k N; omega)
          have hrt : (k : Int).tmod N = (R : Int) := by rw [Int.tmod_eq_emod_of_nonneg (by omega), ← Int.natCast_emod, hR]
          rw [hQ, hR] at hst
          clear hcl hQ hR
          by_cases hy : y < 0
          · have hyd : decide (y < 0) = true := decide_eq_true hy
            rw [hyd] at hst
            have HS := Lib.hid hst
            have HUq := Lib.hid hul
            clear hst hul
            go_wp2_with fail
            have hwz : w1.heap.size < wq.heap.size := by omega
            refine wp_region_qat [] 11 [Mkr.blk (fun g => .slice (some ⟨g, 0, none⟩) 1 1) (.cells #[.int .i64 Q, .int .i64 R] 32)] (by kernel_rfl) (by kernel_rfl) ?_
            intro hbc
            simp only [List.take_succ_cons, List.take_zero, List.drop_succ_cons, List.drop_zero]
            repeat (first
              | refine wpQ_pass rfl ?_
              | (refine wpQ_step rfl (fun K hK => ?_)
                 go_simp
                 first
                   | (refine hK _ ?_; clear hK K)))
            refine wpQ_nil ⟨?_, ?_⟩
            · refine ⟨fun z => ?_, rfl⟩
              · set_option maxRecDepth 100000 in refine makes_blk ?_
                go_simp
            intro u6a g6a hi6a hg6a hl6a n6a w6 hb6 hF6
            clear hbc
            obtain ⟨hc6, hf6⟩ := bcell hb6
            obtain ⟨_, hs6a, ⟨rfl, rfl, hF6a⟩⟩ := hF6
            have hcg6a := blk_cell hF6a
            have hfg6a := blk_frozen hF6a
            try simp only [World.size_alloc] at hg6a
            clear n6a
            try simp only [Act.put, List.setIfInBounds_toArray, List.set_cons_succ, List.set_cons_zero]
            have HO6 := Lib.hid (hown.out.keep hb6)
            have hBe : Hid (Below w5.heap.size w5 w6) := Lib.hid (hbel.out.trans (hb6.mono hsq))
            have hs6 : Hid (w5.heap.size ≤ w6.heap.size) := Lib.hid (by have := hb6.size; omega)
            have HN6 := Lib.hid (two_news (hcg6a 0) (hcg6a 1))
            clear hc6 hf6 hb6
            go_wp2_with (at_builtin; refine wpList_append_own_at _ rfl _ _ 26 rfl (w5.heap.size) 32 iP (.agg #[.int .i64 0, .int .i64 0]) 2 16 Try.underlying26 HP.out.2.1 HP.out.2.2.1 HP.out.2.2.2.1 HP.out.2.2.2.2 rfl (by decide) _ _ _ rfl HO6.out ⟨g6a, 0, none⟩ 1 1 (pc [((Q : Int), (R : Int))]) rfl rfl HN6.out (pc_ok _) (own_maxP (by have := HUq.out; omega) (by decide)) (own_bytesP (by have := HUq.out; omega) (by decide)) hs6.out ?_; intro va wa hown' hg' _ _; have hoa := Lib.hid (OwnP.snoc (qs := [((Q : Int), (R : Int))]) hown' rfl); have hga := Lib.hid hg'; clear hown' hg')
            go_roundw
            case rel => exact ⟨k + 1, by omega, by go_num, Lib.hid (by rw [HS.out]; exact hoa.out), Lib.hid (hBe.out.grown hga.out hs6.out (fun q hq => HO6.out.rows q hq))⟩
            case measure => simp [intOf]; omega
          · have hyd : decide (y < 0) = false := decide_eq_false hy
            rw [hyd] at hst
            have HS := Lib.hid hst
            clear hst hul
            go_wp2_with fail
            go_roundw
            case rel => exact ⟨k + 1, by omega, by go_num, Lib.hid (by rw [HS.out]; exact hown.out), hbel⟩
            case measure => simp [intOf]; omega
        · obtain rfl : k = T := by omega
          obtain ⟨Ap, cp, rfl⟩ := OwnP.shape0 hown.out
          have hul := HUL.out k
          obtain ⟨M, hM⟩ : ∃ M, (unkP N xs k).length = M := ⟨_, rfl⟩
          rw [hM] at hown hul ⊢
          have HRP := Lib.hid (hown.out.rip hM)
          have HTU := Lib.hid (TouchedElements_any N d Ap M cp (unkP N xs k) wq wq.heap.size HRP.out (Nat.le_refl _) (by omega) (fun q hq => by
            obtain ⟨j, hj, -, rfl⟩ := unkP_mem.1 hq
            have h1 := Nat.div_le_self j N
            have h2 := Nat.mod_le j N
            generalize j / N = a at h1 ⊢
            generalize j % N = b at h2 ⊢
            simp only
            omega))
          rw [HtC.out, HtL.out] at HTU
          have HRbq := Lib.hid (HRb5.out.below (hbel.out.mono (by omega)))
          have HBq := Lib.hid (HB5.out.trans (hbel.out.mono (by omega)))
          clear hM hul
          go_wp2_with fail
          (go_at_call 29; with_reducible refine HTU.out.mono ?_; rintro e7 w7 ⟨v7, rfl, ho7, hb7⟩)
          obtain ⟨A7, c7, rfl, hr7⟩ := ho7.shape
          rw [HL2.out] at hr7 ⊢
          have HR7 := Lib.hid hr7
          have hs7 := hb7.size
          have HRb7 := Lib.hid (HRbq.out.below (hb7.mono (by omega)))
          have HB7 := Lib.hid (HBq.out.trans (hb7.mono (by omega)))
          clear ho7 hr7 hb7
          go_wp2_with fail
          go_at_call 42
          with_reducible refine (likeI_eq A7 Ab L2 L2 c7 cb us _ _ _ HR7.out HRb7.out (by omega) (by omega)).mono ?_
          rintro e8 w8 ⟨rfl, hb8⟩
          have HB8 := Lib.hid (HB7.out.trans (hb8.mono (by omega)))
          clear hb8
          go_wp2_with fail
          go_ret
          exact ⟨by simp, HB8.out⟩
    · have hC' : (C != 0) = true := by simpa using hC
      go_wp2_with fail
      go_ret
      exact ⟨rfl, HB5.out⟩
set_option maxRecDepth 100000 in
theorem lifted_FnTouched (os : Os) (started : os.Started) (H : Type) (enc : TypeId × Value → H) :
    ReturnsInHanded {} Try.checked os 9 .any (Rows.fnTouchedSpec.pre6 enc Try.prog Try.f9 Rows.fnTouchedRow.domain false) (Rows.fnTouchedSpec.post enc Try.prog Try.f9 false true false false) := by
  refine law_lifted (C := Try.checked) (tb := 4) own started (by kernel_rfl) Try.func9
    (ChangeSpec.witness6 (enc := enc) (C := Try.checked) false ⟨#[], #[.slice none 0 0], []⟩ 8 (by kernel_rfl) (by kernel_rfl) (by kernel_rfl) (by kernel_rfl))
    laidOut (by kernel_rfl) rfl rfl Try.underlying4 ?_ ?_
  · intro ds hd
    match ds, hd with
    | [e0], _ => rfl
  · intro W base args ds p hval hA hlt hsz
    have hval1 : ∀ (j : Nat) t v, Try.f9.params[j]? = some t → args[j]? = some v → Value.okWide Try.prog W .any base t v := hval
    have hA1 : DataW.TrodAll enc Try.prog W 0 (fun _ => true) true Try.f9.params.toList args.toList ds p := hA
    have hsz1 : (DataW.weightsEach Try.prog Try.f9.params.toList ds).all (· ≤ reachBytes) = true := hsz
    rw [Try.params9] at hval1 hA1 hsz1
    clear hval hA hsz
    obtain ⟨v0, d0, rfl, rfl, h0⟩ := trodAll_one hA1
    obtain ⟨A, n, c, bs, rfl, hr, _⟩ := arg_bytes Try.underlying22 Try.underlying5 (by kernel_rfl) (hval1 0 22 v0 rfl rfl) h0 (fun x hx => hlt x (by simp [hx]))
    exact lawFnTouched A n c bs W hr
theorem holds_FnTouched : Rows.FnTouchedSaid :=
  OpenClaim.holds_of_wide 9 Try.f9 rfl rfl rfl rfl rfl rfl rfl ⟨rfl, rfl, rfl, rfl, rfl⟩ rfl rfl rfl rfl rfl (by kernel_rfl) Try.func9 (by kernel_rfl)
    (of_decide_eq_true (by kernel_rfl)) (by unfold Func.isWrapper; first | (rw [if_pos (by decide +kernel)]; kernel_rfl) | (rw [if_neg (by decide +kernel)]; exact ⟨rfl, rfl⟩))
    (fun os started H enc _ => lifted_FnTouched os started H enc)

end Go.Proofs.Yteghpageamehkaa
