/-
  Contracts of chapter 14: the lists of format places.
-/
import Derived.Test.YtkipaefhnmfebaaPlc
namespace Go.Proofs.Ytkipaefhnmfebaa
set_option linter.unusedSimpArgs false
open Go.RowKit

def pA (k : Nat) : List (Int × Int) := (List.range k).map fun i : Nat => (8, (i : Int))
def pM : List (Int × Int) := [(8, 7), (8, 8), (7, 8)]
def pB (k : Nat) : List (Int × Int) := (List.range k).map fun i : Nat => (5 - (i : Int), 8)
def pC (n : Int) (k : Nat) : List (Int × Int) := (List.range k).map fun i : Nat => (n - 1 - (i : Int), 8)
def pD (n : Int) (k : Nat) : List (Int × Int) := (List.range k).map fun i : Nat => (8, n - 8 + (i : Int))
/-- The two lists of format places. -/
def fmtA : List (Int × Int) := pA 6 ++ pM ++ pB 6
def fmtB (n : Int) : List (Int × Int) := pC n 7 ++ pD n 8
theorem pA_succ (k : Nat) : pA (k + 1) = pA k ++ [(8, (k : Int))] := by unfold pA; rw [List.range_succ]; simp
theorem pB_succ (k : Nat) : pB (k + 1) = pB k ++ [(5 - (k : Int), 8)] := by unfold pB; rw [List.range_succ]; simp
theorem pC_succ (n : Int) (k : Nat) : pC n (k + 1) = pC n k ++ [(n - 1 - (k : Int), 8)] := by unfold pC; rw [List.range_succ]; simp
theorem pD_succ (n : Int) (k : Nat) : pD n (k + 1) = pD n k ++ [(8, n - 8 + (k : Int))] := by unfold pD; rw [List.range_succ]; simp
theorem pA_len (k : Nat) : (pA k).length = k := by simp [pA]
theorem pB_len (k : Nat) : (pB k).length = k := by simp [pB]
theorem pC_len (n : Int) (k : Nat) : (pC n k).length = k := by simp [pC]
theorem pD_len (n : Int) (k : Nat) : (pD n k).length = k := by simp [pD]
theorem fmtA_len : fmtA.length = 15 := rfl
theorem fmtB_len (n : Int) : (fmtB n).length = 15 := rfl
set_option maxHeartbeats 4000000 in
theorem l14Format_any (N : Nat) (w : World) (hN : 17 ≤ N ∧ N ≤ 41) :
    Calls Try.prog 108 #[.int .i64 N] w fun e w' => ∃ v1 v2, e = .returned (.tuple #[v1, v2]) ∧ Two w' w.heap.size v1 fmtA v2 (fmtB N) ∧ Below w.heap.size w w' := by
  obtain ⟨iP, hi⟩ := info_own' info_places
  have HP := Lib.hid (And.intro iP.bytes.le_refl hi)
  clear hi
  have hN1 := hN.1
  have hN2 := hN.2
  clear hN
  go_enter Try.func108, Try.ntmps108
  go_wp2_with fail
  have HE : Hid (Two ((w.alloc (.cells #[] 103)).alloc (.cells #[] 103)) w.heap.size (.slice (some ⟨w.heap.size, 0, none⟩) 0 0) [] (.slice (some ⟨w.heap.size + 1, 0, none⟩) 0 0) []) := Lib.hid (by
    refine ⟨(OwnP.empty w (Nat.le_refl _)).alloc _, ?_, fun k h1 h2 => ?_⟩
    · have := OwnP.empty (B := w.heap.size) (w.alloc (.cells #[] 103)) (by simp)
      simpa using this
    · simp [Value.ownBlock] at h1 h2; omega)
  generalize hV2 : Value.slice (some ⟨w.heap.size + 1, 0, none⟩) 0 0 = E2 at HE ⊢
  clear hV2
  go_loopw [4, 6] (fun f c wr => ∃ k : Nat, k ≤ 6 ∧ c = .int .i64 k ∧ Hid (Two wr w.heap.size f (pA k) E2 []) ∧ Hid (Below w.heap.size w wr))
    (fun _ c _ => 6 - (intOf c).toNat)
  case atStart => exact ⟨0, Nat.zero_le _, rfl, HE, Lib.hid (by go_grown)⟩
  case round =>
    obtain ⟨k, hk, rfl, hT, hbel⟩ := hrel
    by_cases hlt : k < 6
    · go_wp2_with (at_builtin; refine wpList_append_own_at _ rfl _ _ 137 rfl (w.heap.size) 103 iP (.agg #[.int .i64 0, .int .i64 0]) 2 16 Try.underlying137 HP.out.2.1 HP.out.2.2.1 HP.out.2.2.2.1 HP.out.2.2.2.2 rfl (by decide) _ _ _ rfl (OwnP.alloc (hT.out.1) _) ⟨wr.heap.size, 0, none⟩ 1 1 (pc [(8, (k : Int))]) rfl rfl (cells_news _ _ _) (pc_ok _) (own_maxP ((by rw [pA_len]; omega)) (by decide)) (own_bytesP ((by rw [pA_len]; omega)) (by decide)) (own_base (hbel.out.size)) ?_; intro va wa howna hga _ hata; have hoa := OwnP.snoc (qs := [(8, (k : Int))]) howna rfl; clear howna)
      have hT1 := Lib.hid (hT.out.first hoa hga hata)
      have hB1 := Lib.hid (OwnP.below_grown hT.out.1 hbel.out hbel.out.size hga)
      clear hoa hga hata
      go_wp2_with fail
      go_roundw
      case rel => exact ⟨k + 1, by omega, by go_num, Lib.hid (by rw [pA_succ]; exact hT1.out), hB1⟩
      case measure => simp [intOf]; omega
    · obtain rfl : k = 6 := by omega
      clear hk hlt
      go_wp2_with (at_builtin; refine wpList_append_own_at _ rfl _ _ 137 rfl (w.heap.size) 103 iP (.agg #[.int .i64 0, .int .i64 0]) 2 16 Try.underlying137 HP.out.2.1 HP.out.2.2.1 HP.out.2.2.2.1 HP.out.2.2.2.2 rfl (by decide) _ _ _ rfl (OwnP.alloc (hT.out.1) _) ⟨wr.heap.size, 0, none⟩ 3 3 (pc pM) rfl rfl (cells_news _ _ _) (pc_ok _) (own_maxP ((by decide)) (by decide)) (own_bytesP ((by decide)) (by decide)) (own_base (hbel.out.size)) ?_; intro va wa howna hga _ hata; have hoa := OwnP.snoc (qs := pM) howna rfl; clear howna)
      have hT1 := Lib.hid (hT.out.first hoa hga hata)
      have hB1 := Lib.hid (OwnP.below_grown hT.out.1 hbel.out hbel.out.size hga)
      clear hoa hga hata hT hbel
      go_wp2_with fail
      go_loopw [4, 7] (fun f r wr => ∃ k : Nat, k ≤ 6 ∧ r = .int .i64 (5 - (k : Int)) ∧ Hid (Two wr w.heap.size f (pA 6 ++ pM ++ pB k) E2 []) ∧ Hid (Below w.heap.size w wr))
        (fun _ r _ => (intOf r + 1).toNat)
      case atStart => exact ⟨0, Nat.zero_le _, rfl, Lib.hid (by simpa [pB] using hT1.out), hB1⟩
      case round =>
        obtain ⟨k, hk, rfl, hT, hbel⟩ := hrel
        by_cases hlt : k < 6
        · go_wp2_with (at_builtin; refine wpList_append_own_at _ rfl _ _ 137 rfl (w.heap.size) 103 iP (.agg #[.int .i64 0, .int .i64 0]) 2 16 Try.underlying137 HP.out.2.1 HP.out.2.2.1 HP.out.2.2.2.1 HP.out.2.2.2.2 rfl (by decide) _ _ _ rfl (OwnP.alloc (hT.out.1) _) ⟨wr.heap.size, 0, none⟩ 1 1 (pc [(5 - (k : Int), 8)]) rfl rfl (cells_news _ _ _) (pc_ok _) (own_maxP ((by simp [pB_len, pA_len, pM]; omega)) (by decide)) (own_bytesP ((by simp [pB_len, pA_len, pM]; omega)) (by decide)) (own_base (hbel.out.size)) ?_; intro va wa howna hga _ hata; have hoa := OwnP.snoc (qs := [(5 - (k : Int), 8)]) howna rfl; clear howna)
          have hT2 := Lib.hid (hT.out.first hoa hga hata)
          have hB2 := Lib.hid (OwnP.below_grown hT.out.1 hbel.out hbel.out.size hga)
          clear hoa hga hata
          go_wp2_with fail
          go_roundw
          case rel => exact ⟨k + 1, by omega, by go_num, Lib.hid (by rw [pB_succ, ← List.append_assoc]; exact hT2.out), hB2⟩
          case measure => simp [intOf]; omega
        · obtain rfl : k = 6 := by omega
          clear hk hlt
          go_wp2_with fail
          clear hT1 hB1
          generalize Value.int .i64 (5 - ((6 : Nat) : Int)) = R7
          generalize u4 = F at hT ⊢
          have hT1 := Lib.hid (show Two wr w.heap.size F fmtA E2 [] from hT.out)
          have hB1 := hbel
          clear hT hbel
          go_loopw [5, 8] (fun s r wr => ∃ k : Nat, k ≤ 7 ∧ r = .int .i64 (1 + (k : Int)) ∧ Hid (Two wr w.heap.size F fmtA s (pC N k)) ∧ Hid (Below w.heap.size w wr))
            (fun _ r _ => (8 - intOf r).toNat)
          case atStart => exact ⟨0, Nat.zero_le _, by go_num, Lib.hid (by simpa [pC] using hT1.out), hB1⟩
          case round =>
            obtain ⟨k, hk, rfl, hT, hbel⟩ := hrel
            by_cases hlt : k < 7
            · go_wp2_with (at_builtin; refine wpList_append_own_at _ rfl _ _ 137 rfl (w.heap.size) 103 iP (.agg #[.int .i64 0, .int .i64 0]) 2 16 Try.underlying137 HP.out.2.1 HP.out.2.2.1 HP.out.2.2.2.1 HP.out.2.2.2.2 rfl (by decide) _ _ _ rfl (OwnP.alloc (hT.out.2.1) _) ⟨wr.heap.size, 0, none⟩ 1 1 (pc [((N : Int) - (1 + (k : Int)), 8)]) rfl rfl (cells_news _ _ _) (pc_ok _) (own_maxP ((by rw [pC_len]; omega)) (by decide)) (own_bytesP ((by rw [pC_len]; omega)) (by decide)) (own_base (hbel.out.size)) ?_; intro va wa howna hga _ hata; have hoa := OwnP.snoc (qs := [((N : Int) - (1 + (k : Int)), 8)]) howna rfl; clear howna)
              have hT2 := Lib.hid (hT.out.symm.first hoa hga hata).symm
              have hB2 := Lib.hid (OwnP.below_grown hT.out.2.1 hbel.out hbel.out.size hga)
              clear hoa hga hata
              go_wp2_with fail
              go_roundw
              case rel => exact ⟨k + 1, by omega, by go_num, Lib.hid (by rw [pC_succ, show (N : Int) - 1 - (k : Int) = (N : Int) - (1 + (k : Int)) by omega]; exact hT2.out), hB2⟩
              case measure => simp [intOf]; omega
            · obtain rfl : k = 7 := by omega
              clear hk hlt
              go_wp2_with fail
              generalize Value.int .i64 (1 + ((7 : Nat) : Int)) = R8
              go_loopw [5, 9] (fun s r wr => ∃ k : Nat, k ≤ 8 ∧ r = .int .i64 ((N : Int) - 8 + k) ∧ Hid (Two wr w.heap.size F fmtA s (pC N 7 ++ pD N k)) ∧ Hid (Below w.heap.size w wr))
                (fun _ r _ => ((N : Int) - intOf r).toNat)
              case atStart => exact ⟨0, Nat.zero_le _, by go_num, Lib.hid (by simpa [pD] using hT.out), hbel⟩
              case round =>
                obtain ⟨k, hk, rfl, hT, hbel⟩ := hrel
                by_cases hlt : k < 8
                · go_wp2_with (at_builtin; refine wpList_append_own_at _ rfl _ _ 137 rfl (w.heap.size) 103 iP (.agg #[.int .i64 0, .int .i64 0]) 2 16 Try.underlying137 HP.out.2.1 HP.out.2.2.1 HP.out.2.2.2.1 HP.out.2.2.2.2 rfl (by decide) _ _ _ rfl (OwnP.alloc (hT.out.2.1) _) ⟨wr.heap.size, 0, none⟩ 1 1 (pc [(8, (N : Int) - 8 + (k : Int))]) rfl rfl (cells_news _ _ _) (pc_ok _) (own_maxP ((by simp [pC_len, pD_len]; omega)) (by decide)) (own_bytesP ((by simp [pC_len, pD_len]; omega)) (by decide)) (own_base (hbel.out.size)) ?_; intro va wa howna hga _ hata; have hoa := OwnP.snoc (qs := [(8, (N : Int) - 8 + (k : Int))]) howna rfl; clear howna)
                  have hT2 := Lib.hid (hT.out.symm.first hoa hga hata).symm
                  have hB2 := Lib.hid (OwnP.below_grown hT.out.2.1 hbel.out hbel.out.size hga)
                  clear hoa hga hata
                  go_wp2_with fail
                  go_roundw
                  case rel => exact ⟨k + 1, by omega, by go_num, Lib.hid (by rw [pD_succ, ← List.append_assoc]; exact hT2.out), hB2⟩
                  case measure => simp [intOf]; omega
                · obtain rfl : k = 8 := by omega
                  clear hk hlt
                  go_wp2_with fail
                  go_returns
                  exact ⟨F, u5, rfl, hT.out, hbel.out⟩
end Go.Proofs.Ytkipaefhnmfebaa
