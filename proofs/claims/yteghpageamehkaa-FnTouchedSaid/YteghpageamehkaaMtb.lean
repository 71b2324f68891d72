/-
  Contracts of chapter 15: the elements of a grid, the program and the reference.
-/
import Derived.Test.YteghpageamehkaaDp
import Derived.Test.YteghpageamehkaaC15D
import Derived.Test.YteghpageamehkaaC14I
import Derived.Test.YteghpageamehkaaLst
import Derived.Test.YteghpageamehkaaC15E
import Derived.Test.YteghpageamehkaaPlW
import Derived.Test.YteghpageamehkaaMta
import Derived.Test.YteghpageamehkaaC15M
import Derived.Test.YteghpageamehkaaTk
import Derived.Test.YteghpageamehkaaC14A
import Derived.Test.YteghpageamehkaaC15P
import Derived.Test.YteghpageamehkaaDat
import Derived.BigQuiet
import Derived.Deep.RegionHeld3
namespace Go.Proofs.Yteghpageamehkaa
open Go.RowKit

def negB (x : Int) : Bool := decide (x < 0)
/-- How many data cells there are. -/
def countOk : Bool := sizes.all fun N => (dataF N).length + 30 == cnt negB (fixL N)
theorem countOk_true : countOk = true := by decide +kernel
theorem data_count {N : Nat} (h : 17 ≤ N ∧ N ≤ 41 ∧ N % 4 = 1) : (dataL N).length + 30 = cnt negB (fixL N) := by
  rw [data_F h]
  have h1 := List.all_eq_true.1 countOk_true N (size_mem h)
  simpa using h1
end Go.Proofs.Yteghpageamehkaa
namespace Go.Proofs.Yteghpageamehkaa
set_option linter.unusedSimpArgs false
open Go.RowKit

theorem OwnP.form {w : World} {B : Nat} {v : Value} {ps : List (Int × Int)} (h : OwnP w B v ps) : ∃ A c, v = .slice A ps.length c := by
  rcases h.2 with ⟨rfl, h0⟩ | ⟨g, cap, cur, rfl, hB, hg, hr⟩
  · exact ⟨none, 0, by rw [h0]⟩
  · exact ⟨_, cap, rfl⟩
/-- The number of data cells of a size, or 0. -/
def dcV (n : Int) : Int := if sizeB n then ((dataL n.toNat).length : Nat) else 0
set_option maxHeartbeats 1000000 in
theorem l14Count_any (N : Nat) (w : World) (hN : 17 ≤ N ∧ N ≤ 41 ∧ N % 4 = 1) :
    Calls Try.prog 58 #[.int .i64 N] w fun e w' => e = .returned (.int .i64 ((dataL N).length : Nat)) ∧ Below w.heap.size w w' := by
  have HG := Lib.hid (fun w => l14Grid_any N w hN)
  have hlen := fixL_len N
  have HC := Lib.hid (data_count hN)
  have hNN : N * N ≤ 1681 := Nat.mul_le_mul hN.2.1 hN.2.1
  clear hN
  go_enter Try.func58, Try.ntmps58
  go_wp2_with fail
  (go_at_call 81; with_reducible refine (HG.out _).mono ?_; rintro e1 w1 ⟨v1, rfl, ho1, hb1⟩; obtain ⟨hc1, hf1⟩ := bcell hb1; have hB1 : Below w.heap.size w w1 := (below_then (by first | (go_grown; done) | (repeat (first | (with_reducible assumption) | (with_reducible exact Below.refl _ _) | (with_reducible refine below_drewN' ?_ _) | (with_reducible refine Below.drew ?_) | ((with_reducible refine Below.alloc ?_ ?_ _); rotate_left; focus (first | (simp; done) | (simp; omega) | omega)) | ((with_reducible refine Below.setCell ?_ ?_ _); rotate_left; focus (first | (simp; done) | (simp; omega) | omega))))) (by first | omega | (simp; done) | (simp; omega)) hb1))
  obtain ⟨A1, c1, rfl, hr1⟩ := ho1.shape
  rw [hlen] at hr1 ⊢
  have HL := Lib.hid hlen
  have hs1 := hb1.size
  have HR1 := Lib.hid (hr1.alloc (Nat.le_refl _) (.cells #[.int .i64 (N : Int), .int .i64 (N : Int), .slice A1 (N * N) c1] 37))
  have HB1 := Lib.hid hB1
  have hNNi : (N : Int) * N ≤ 1681 := by have : ((N * N : Nat) : Int) ≤ 1681 := by omega
                                         simpa using this
  clear ho1 hr1 hlen hc1 hf1 hb1
  go_wp2_with fail
  go_loop [4, 5] (fun q i => ∃ k : Nat, k ≤ N * N ∧ i = .int .i64 k ∧ q = .int .i64 (-30 + (cnt negB ((fixL N).take k) : Nat))) (fun _ i => N * N - (intOf i).toNat)
  case atStart => exact ⟨0, Nat.zero_le _, rfl, rfl⟩
  case round =>
    obtain ⟨k, hk, rfl, rfl⟩ := hrel
    by_cases hlt : k < N * N
    · obtain ⟨b, o, rfl, hb, hc⟩ := HR1.out.cells (by omega)
      have hck := hc k hlt
      clear hc
      have hle := cnt_take_le negB (fixL N) k
      have hst := cnt_take (p := negB) (xs := fixL N) (k := k) (by rw [HL.out]; exact hlt)
      have HS := Lib.hid hst
      clear hst
      by_cases he : nth (fixL N) k < 0
      · go_wp2_with fail
        go_round
        case rel => exact ⟨k + 1, by omega, by go_num, by rw [HS.out]; simp [negB, he]; go_num⟩
        case measure => simp [intOf]; omega
      · go_wp2_with fail
        go_round
        case rel => exact ⟨k + 1, by omega, by go_num, by rw [HS.out]; simp [negB, he]⟩
        case measure => simp [intOf]; omega
    · have hkn : k = N * N := by omega
      have hA : cnt negB ((fixL N).take k) = cnt negB (fixL N) := by rw [hkn, List.take_of_length_le (by rw [HL.out]; exact Nat.le_refl _)]
      have HA := Lib.hid hA
      clear hA hkn
      go_wp2_with fail
      go_ret
      exact ⟨ret_int (by rw [HA.out, ← HC.out]; omega), by (repeat (first | (with_reducible assumption) | (with_reducible exact Below.refl _ _) | (with_reducible refine below_drewN' ?_ _) | (with_reducible refine Below.drew ?_) | ((with_reducible refine Below.alloc ?_ ?_ _); rotate_left; focus (first | (simp; done) | (simp; omega) | omega)) | ((with_reducible refine Below.setCell ?_ ?_ _); rotate_left; focus (first | (simp; done) | (simp; omega) | omega))))⟩
theorem sDataCount_any (n : Int) (w : World) : Calls Try.prog 77 #[.int .i64 n] w fun e w' => e = .returned (.int .i64 (dcV n)) ∧ Below w.heap.size w w' := by
  unfold dcV
  cases hs : sizeB n
  · go_enter Try.func77, Try.ntmps77
    go_wp2_with (go_at_call 55; refine (l14Size_any _ _).mono ?_; rintro e w' ⟨rfl, rfl⟩)
    go_ret
    exact ⟨by simp, by (repeat (first | (with_reducible assumption) | (with_reducible exact Below.refl _ _) | (with_reducible refine below_drewN' ?_ _) | (with_reducible refine Below.drew ?_) | ((with_reducible refine Below.alloc ?_ ?_ _); rotate_left; focus (first | (simp; done) | (simp; omega) | omega)) | ((with_reducible refine Below.setCell ?_ ?_ _); rotate_left; focus (first | (simp; done) | (simp; omega) | omega))))⟩
  · obtain ⟨N, rfl, h1, h2, h3⟩ := sizeB_true hs
    have HC := Lib.hid (fun w => l14Count_any N w ⟨h1, h2, h3⟩)
    have HT : Hid ((N : Int).toNat = N) := Lib.hid (by simp)
    go_enter Try.func77, Try.ntmps77
    go_wp2_with first | (go_at_call 55; refine (l14Size_any _ _).mono ?_; rintro e w' ⟨rfl, rfl⟩)
    (go_at_call 58; with_reducible refine (HC.out _).mono ?_; rintro e1 w1 ⟨rfl, hb1⟩; obtain ⟨hc1, hf1⟩ := bcell hb1; have hB1 : Below w.heap.size w w1 := (below_then (by first | (go_grown; done) | (repeat (first | (with_reducible assumption) | (with_reducible exact Below.refl _ _) | (with_reducible refine below_drewN' ?_ _) | (with_reducible refine Below.drew ?_) | ((with_reducible refine Below.alloc ?_ ?_ _); rotate_left; focus (first | (simp; done) | (simp; omega) | omega)) | ((with_reducible refine Below.setCell ?_ ?_ _); rotate_left; focus (first | (simp; done) | (simp; omega) | omega))))) (by first | omega | (simp; done) | (simp; omega)) hb1))
    go_wp2_with fail
    go_ret
    exact ⟨by simp, by (repeat (first | (with_reducible assumption) | (with_reducible exact Below.refl _ _) | (with_reducible refine below_drewN' ?_ _) | (with_reducible refine Below.drew ?_) | ((with_reducible refine Below.alloc ?_ ?_ _); rotate_left; focus (first | (simp; done) | (simp; omega) | omega)) | ((with_reducible refine Below.setCell ?_ ?_ _); rotate_left; focus (first | (simp; done) | (simp; omega) | omega))))⟩
end Go.Proofs.Yteghpageamehkaa
namespace Go.Proofs.Yteghpageamehkaa
set_option linter.unusedSimpArgs false
open Go.ChangeShapes Go.WideShapes Go.ChangeAt Go.RowKit Go.Deep

def epC (n d e : Int) : Int := bif sizeB n && inR d 1 8 then (bif inR e 0 ((((dataL n.toNat).length / d.toNat : Nat) : Int) - 1) then 0 else 4) else 2
def epR (n d e : Int) : List (Int × Int) := bif sizeB n && inR d 1 8 then (bif inR e 0 ((((dataL n.toNat).length / d.toNat : Nat) : Int) - 1) then ((dataL n.toNat).drop (e.toNat * d.toNat)).take d.toNat else []) else []
theorem epR_le (n d e : Int) : (epR n d e).length ≤ 1640 := by
  unfold epR
  cases hs : sizeB n
  · simp
  · obtain ⟨N, rfl, h1, h2, h3⟩ := sizeB_true hs
    have := dataL_le h2
    cases inR d 1 8
    · simp
    · simp only [Bool.and_self, cond_true, Int.toNat_natCast]
      generalize inR e 0 _ = b
      cases b
      · simp
      · simp only [cond_true]
        rw [List.length_take, List.length_drop]; omega
theorem pc_drop : ∀ (k : Nat) (ps : List (Int × Int)), pc (ps.drop k) = (pc ps).drop (k * 2) := by
  intro k
  induction k with
  | zero => intro ps; simp
  | succ k ih =>
    intro ps
    cases ps with
    | nil => simp [pc]
    | cons p ps => rw [show (k + 1) * 2 = k * 2 + 1 + 1 by omega]; simp only [List.drop_succ_cons, pc]; exact ih ps
theorem pc_take : ∀ (k : Nat) (ps : List (Int × Int)), pc (ps.take k) = (pc ps).take (k * 2) := by
  intro k
  induction k with
  | zero => intro ps; simp [pc]
  | succ k ih =>
    intro ps
    cases ps with
    | nil => simp [pc]
    | cons p ps => rw [show (k + 1) * 2 = k * 2 + 1 + 1 by omega]; simp only [List.take_succ_cons, pc]; rw [ih ps]
theorem add_off (g a j : Nat) : (⟨g, a, none⟩ : Addr).add j = (⟨g, 0, none⟩ : Addr).add (a + j) := by
  unfold Addr.add
  by_cases h1 : j = 0
  · subst h1
    by_cases h2 : a = 0
    · subst h2; rfl
    · simp [h2]
  · have h2 : a + j ≠ 0 := by omega
    simp [h1, h2]
theorem OwnP.part {w : World} {B g L c lo W : Nat} {ps : List (Int × Int)} (h : OwnP w B (.slice (some ⟨g, 0, none⟩) L c) ps) :
    ∀ j u, (pc ((ps.drop lo).take W))[j]? = some u → w.cell? ((⟨g, lo * 2, none⟩ : Addr).add j) = some u := by
  intro j u hj
  rw [pc_take, pc_drop, List.getElem?_take] at hj
  split at hj
  · rw [List.getElem?_drop] at hj
    rw [add_off]
    exact World.ownsRow.cells h rfl _ _ hj
  · cases hj
theorem OwnP.cap {w : World} {B g L c : Nat} {ps : List (Int × Int)} (h : OwnP w B (.slice (some ⟨g, 0, none⟩) L c) ps) (hl : ps.length = L) : L ≤ c := by
  rcases h.2 with ⟨h', _⟩ | ⟨g', cap, cur, h', _, _, hn, _⟩
  · simp at h'
  · simp only [Value.slice.injEq, Option.some.injEq, Addr.mk.injEq, and_true] at h'
    obtain ⟨-, -, rfl⟩ := h'
    omega
theorem l15Width_any (d : Int) (w : World) : Calls Try.prog 56 #[.int .i64 d] w fun e w' => e = .returned (.bool (inR d 1 8)) ∧ w = w' := by
  cases h : inR d 1 8
  all_goals
    go_enter Try.func56, Try.ntmps56
    go_wp2_with (go_at_call 57; refine (l01In_any _ _ _ _).mono ?_; rintro e w' ⟨rfl, rfl⟩)
    go_ret
    exact ⟨rfl, rfl⟩
set_option maxRecDepth 20000 in
set_option maxHeartbeats 2000000 in
theorem ElementPlaces_any (n d e : Int) (w : World) :
    Calls Try.prog 13 #[.int .i64 n, .int .i64 d, .int .i64 e] w fun e' w' => ∃ v, e' = .returned (.tuple #[v, .int .i64 (epC n d e)]) ∧ OwnP w' w.heap.size v (epR n d e) ∧ Below w.heap.size w w' := by
  unfold epC epR
  cases hs : sizeB n
  · go_enter Try.func13, Try.ntmps13
    go_wp2_with (go_at_call 52; refine (isMatrixSize_any _ _).mono ?_; rintro e w' ⟨rfl, rfl⟩)
    go_returns
    exact ⟨.slice none 0 0, by simp, by simpa using OwnP.nil, by (repeat (first | (with_reducible assumption) | (with_reducible exact Below.refl _ _) | (with_reducible refine below_drewN' ?_ _) | (with_reducible refine Below.drew ?_) | ((with_reducible refine Below.alloc ?_ ?_ _); rotate_left; focus (first | (simp; done) | (simp; omega) | omega)) | ((with_reducible refine Below.setCell ?_ ?_ _); rotate_left; focus (first | (simp; done) | (simp; omega) | omega))))⟩
  cases hd : inR d 1 8
  · go_enter Try.func13, Try.ntmps13
    go_wp2_with first | (go_at_call 52; refine (isMatrixSize_any _ _).mono ?_; rintro e w' ⟨rfl, rfl⟩) | (go_at_call 53; refine (inRange_any _ _ _ _).mono ?_; rintro e w' ⟨rfl, rfl⟩)
    go_returns
    exact ⟨.slice none 0 0, by simp, by simpa using OwnP.nil, by (repeat (first | (with_reducible assumption) | (with_reducible exact Below.refl _ _) | (with_reducible refine below_drewN' ?_ _) | (with_reducible refine Below.drew ?_) | ((with_reducible refine Below.alloc ?_ ?_ _); rotate_left; focus (first | (simp; done) | (simp; omega) | omega)) | ((with_reducible refine Below.setCell ?_ ?_ _); rotate_left; focus (first | (simp; done) | (simp; omega) | omega))))⟩
  obtain ⟨N, rfl, h1, h2, h3⟩ := sizeB_true hs
  have hdr := inR_true hd
  obtain ⟨W, rfl⟩ := Int.eq_ofNat_of_zero_le (show 0 ≤ d by omega)
  have HF := Lib.hid (fun w => dataPlaces_any N w ⟨h1, h2, h3⟩)
  have hle := dataL_le h2
  simp only [Bool.and_self, cond_true, Int.toNat_natCast]
  obtain ⟨L, hL⟩ : ∃ L, (dataL N).length = L := ⟨_, rfl⟩
  rw [hL] at hle ⊢
  have HL := Lib.hid hL
  clear hL
  obtain ⟨q, hq⟩ : ∃ q, L / W = q := ⟨_, rfl⟩
  have hqi : (L : Int) / W = (q : Int) := by rw [← hq]; exact (Int.natCast_ediv L W).symm
  have hqw : IntKind.i64.wrap ((L : Int) / W) = (q : Int) := by rw [hqi]; exact i64_in (by have := Nat.div_le_self L W; omega)
  have hqL : q ≤ L := by rw [← hq]; exact Nat.div_le_self L W
  have hqW : q * W ≤ L := by rw [← hq]; exact Nat.div_mul_le_self L W
  have hW0 : ¬ W = 0 := by omega
  rw [hq]
  generalize dataL N = ps at HF HL ⊢
  obtain ⟨iP, hi⟩ := info_own' info_places
  have HP := Lib.hid (And.intro iP.bytes.le_refl hi)
  clear hi hq
  cases he : inR e 0 ((q : Int) - 1)
  · go_enter Try.func13, Try.ntmps13
    go_wp2_with first | (go_at_call 52; refine (isMatrixSize_any _ _).mono ?_; rintro e w' ⟨rfl, rfl⟩) | (go_at_call 53; refine (inRange_any _ _ _ _).mono ?_; rintro e w' ⟨rfl, rfl⟩)
    (go_at_call 54; with_reducible refine (HF.out _).mono ?_; rintro e1 w1 ⟨v1, rfl, ho1, hb1⟩; obtain ⟨hc1, hf1⟩ := bcell hb1; have hB1 : Below w.heap.size w w1 := (below_then (by first | (go_grown; done) | (repeat (first | (with_reducible assumption) | (with_reducible exact Below.refl _ _) | (with_reducible refine below_drewN' ?_ _) | (with_reducible refine Below.drew ?_) | ((with_reducible refine Below.alloc ?_ ?_ _); rotate_left; focus (first | (simp; done) | (simp; omega) | omega)) | ((with_reducible refine Below.setCell ?_ ?_ _); rotate_left; focus (first | (simp; done) | (simp; omega) | omega))))) (by first | omega | (simp; done) | (simp; omega)) hb1))
    obtain ⟨A1, c1, rfl⟩ := ho1.shape0
    rw [HL.out] at ho1 ⊢
    have HO1 := Lib.hid ho1
    clear ho1 hc1 hf1
    go_wp2_with (go_at_call 53; refine (inRange_any _ _ _ _).mono ?_; rintro e w' ⟨rfl, rfl⟩)
    go_returns
    exact ⟨.slice none 0 0, by simp, by simpa using OwnP.nil, by (repeat (first | (with_reducible assumption) | (with_reducible exact Below.refl _ _) | (with_reducible refine below_drewN' ?_ _) | (with_reducible refine Below.drew ?_) | ((with_reducible refine Below.alloc ?_ ?_ _); rotate_left; focus (first | (simp; done) | (simp; omega) | omega)) | ((with_reducible refine Below.setCell ?_ ?_ _); rotate_left; focus (first | (simp; done) | (simp; omega) | omega))))⟩
  · have her := inR_true he
    obtain ⟨E, rfl⟩ := Int.eq_ofNat_of_zero_le her.1
    simp only [cond_true, Int.toNat_natCast]
    have hEW : E * W + W ≤ L := by
      have : (E + 1) * W ≤ q * W := Nat.mul_le_mul_right _ (by omega)
      rw [Nat.succ_mul] at this; omega
    obtain ⟨lo, hlo⟩ : ∃ lo, E * W = lo := ⟨_, rfl⟩
    rw [hlo] at hEW ⊢
    have hlo1 : (E : Int) * W = (lo : Int) := by rw [← hlo]; simp
    have hlo2 : ((E : Int) + 1) * W = ((lo + W : Nat) : Int) := by rw [Int.add_mul, hlo1]; simp
    have hwl : IntKind.i64.wrap (lo : Int) = (lo : Int) := i64_in (by omega)
    have hR : ((ps.drop lo).take W).length = W := by rw [List.length_take, List.length_drop, HL.out]; omega
    have HRl := Lib.hid hR
    clear hR hlo
    go_enter Try.func13, Try.ntmps13
    go_wp2_with first | (go_at_call 52; refine (isMatrixSize_any _ _).mono ?_; rintro e w' ⟨rfl, rfl⟩) | (go_at_call 53; refine (inRange_any _ _ _ _).mono ?_; rintro e w' ⟨rfl, rfl⟩)
    (go_at_call 54; with_reducible refine (HF.out _).mono ?_; rintro e1 w1 ⟨v1, rfl, ho1, hb1⟩; obtain ⟨hc1, hf1⟩ := bcell hb1; have hB1 : Below w.heap.size w w1 := (below_then (by first | (go_grown; done) | (repeat (first | (with_reducible assumption) | (with_reducible exact Below.refl _ _) | (with_reducible refine below_drewN' ?_ _) | (with_reducible refine Below.drew ?_) | ((with_reducible refine Below.alloc ?_ ?_ _); rotate_left; focus (first | (simp; done) | (simp; omega) | omega)) | ((with_reducible refine Below.setCell ?_ ?_ _); rotate_left; focus (first | (simp; done) | (simp; omega) | omega))))) (by first | omega | (simp; done) | (simp; omega)) hb1))
    obtain ⟨A1, c1, rfl⟩ := ho1.shape0
    rw [HL.out] at ho1 ⊢
    have HO1 := Lib.hid ho1
    clear ho1 hc1 hf1
    obtain ⟨g, c', e', hB', hg', -⟩ := HO1.out.cells (by rw [HL.out]; omega)
    simp only [Value.slice.injEq] at e'
    obtain ⟨rfl, -, -⟩ := e'
    have hcap := HO1.out.cap HL.out
    have hnews := Lib.hid (OwnP.part (lo := lo) (W := W) HO1.out)
    go_wp2_with first | (go_at_call 53; refine (inRange_any _ _ _ _).mono ?_; rintro e w' ⟨rfl, rfl⟩) | (at_builtin; refine wpList_append_own_at _ rfl _ _ 26 rfl (w.heap.size) 32 iP (.agg #[.int .i64 0, .int .i64 0]) 2 16 Try.underlying26 HP.out.2.1 HP.out.2.2.1 HP.out.2.2.2.1 HP.out.2.2.2.2 rfl (by decide) (.slice none 0 0) 0 [] rfl (World.ownsRow_nil _ _ _ _) ⟨g, lo * 2, none⟩ (lo + W - lo) _ (pc ((ps.drop lo).take W)) rfl (by rw [pc_len, HRl.out, Nat.add_sub_cancel_left]) hnews.out (pc_ok _) (own_maxP (by decide) (by omega)) (own_bytesP (by decide) (by omega)) (by have := hb1.size; omega) ?_; intro va wa howna hga _ hata)
    have hoa := Lib.hid (show OwnP wa w.heap.size va ((ps.drop lo).take W) by
      have h := howna
      simp only [List.nil_append, Nat.zero_add, Nat.add_sub_cancel_left] at h
      unfold OwnP; rw [HRl.out]; exact h)
    have hBa := Lib.hid (hB1.grown hga (by have := hb1.size; omega) (fun k hk => by cases hk))
    clear howna hga hata
    go_wp2_with fail
    go_returns
    exact ⟨va, by simp, hoa.out, hBa.out⟩
set_option maxRecDepth 20000 in
set_option maxHeartbeats 2000000 in
theorem sElementPlaces_any (n d e : Int) (w : World) :
    Calls Try.prog 14 #[.int .i64 n, .int .i64 d, .int .i64 e] w fun e' w' => ∃ v, e' = .returned (.tuple #[v, .int .i64 (epC n d e)]) ∧ OwnP w' w.heap.size v (epR n d e) ∧ Below w.heap.size w w' := by
  unfold epC epR
  cases hs : sizeB n
  · go_enter Try.func14, Try.ntmps14
    go_wp2_with (go_at_call 55; refine (l14Size_any _ _).mono ?_; rintro e w' ⟨rfl, rfl⟩)
    go_returns
    exact ⟨.slice none 0 0, by simp, by simpa using OwnP.nil, by (repeat (first | (with_reducible assumption) | (with_reducible exact Below.refl _ _) | (with_reducible refine below_drewN' ?_ _) | (with_reducible refine Below.drew ?_) | ((with_reducible refine Below.alloc ?_ ?_ _); rotate_left; focus (first | (simp; done) | (simp; omega) | omega)) | ((with_reducible refine Below.setCell ?_ ?_ _); rotate_left; focus (first | (simp; done) | (simp; omega) | omega))))⟩
  cases hd : inR d 1 8
  · go_enter Try.func14, Try.ntmps14
    go_wp2_with first | (go_at_call 55; refine (l14Size_any _ _).mono ?_; rintro e w' ⟨rfl, rfl⟩) | (go_at_call 56; refine (l15Width_any _ _).mono ?_; rintro e w' ⟨rfl, rfl⟩)
    go_returns
    exact ⟨.slice none 0 0, by simp, by simpa using OwnP.nil, by (repeat (first | (with_reducible assumption) | (with_reducible exact Below.refl _ _) | (with_reducible refine below_drewN' ?_ _) | (with_reducible refine Below.drew ?_) | ((with_reducible refine Below.alloc ?_ ?_ _); rotate_left; focus (first | (simp; done) | (simp; omega) | omega)) | ((with_reducible refine Below.setCell ?_ ?_ _); rotate_left; focus (first | (simp; done) | (simp; omega) | omega))))⟩
  obtain ⟨N, rfl, h1, h2, h3⟩ := sizeB_true hs
  have hdr := inR_true hd
  obtain ⟨W, rfl⟩ := Int.eq_ofNat_of_zero_le (show 0 ≤ d by omega)
  have HF := Lib.hid (fun w => l15Places_any N w ⟨h1, h2, h3⟩)
  have HC := Lib.hid (fun w => l14Count_any N w ⟨h1, h2, h3⟩)
  have hle := dataL_le h2
  simp only [Bool.and_self, cond_true, Int.toNat_natCast]
  obtain ⟨L, hL⟩ : ∃ L, (dataL N).length = L := ⟨_, rfl⟩
  rw [hL] at hle HC ⊢
  have HL := Lib.hid hL
  clear hL
  obtain ⟨q, hq⟩ : ∃ q, L / W = q := ⟨_, rfl⟩
  have hqi : (L : Int) / W = (q : Int) := by rw [← hq]; exact (Int.natCast_ediv L W).symm
  have hqw : IntKind.i64.wrap ((L : Int) / W) = (q : Int) := by rw [hqi]; exact i64_in (by have := Nat.div_le_self L W; omega)
  have hqL : q ≤ L := by rw [← hq]; exact Nat.div_le_self L W
  have hqW : q * W ≤ L := by rw [← hq]; exact Nat.div_mul_le_self L W
  have hW0 : ¬ W = 0 := by omega
  rw [hq]
  generalize dataL N = ps at HF HL ⊢
  obtain ⟨iP, hi⟩ := info_own' info_places
  have HP := Lib.hid (And.intro iP.bytes.le_refl hi)
  clear hi hq
  cases he : inR e 0 ((q : Int) - 1)
  · go_enter Try.func14, Try.ntmps14
    go_wp2_with first | (go_at_call 55; refine (l14Size_any _ _).mono ?_; rintro e w' ⟨rfl, rfl⟩) | (go_at_call 56; refine (l15Width_any _ _).mono ?_; rintro e w' ⟨rfl, rfl⟩)
    (go_at_call 58; with_reducible refine (HC.out _).mono ?_; rintro e1 w1 ⟨rfl, hb1⟩; obtain ⟨hc1, hf1⟩ := bcell hb1; have hB1 : Below w.heap.size w w1 := (below_then (by first | (go_grown; done) | (repeat (first | (with_reducible assumption) | (with_reducible exact Below.refl _ _) | (with_reducible refine below_drewN' ?_ _) | (with_reducible refine Below.drew ?_) | ((with_reducible refine Below.alloc ?_ ?_ _); rotate_left; focus (first | (simp; done) | (simp; omega) | omega)) | ((with_reducible refine Below.setCell ?_ ?_ _); rotate_left; focus (first | (simp; done) | (simp; omega) | omega))))) (by first | omega | (simp; done) | (simp; omega)) hb1))
    go_wp2_with (go_at_call 57; refine (l01In_any _ _ _ _).mono ?_; rintro e w' ⟨rfl, rfl⟩)
    go_returns
    exact ⟨.slice none 0 0, by simp, by simpa using OwnP.nil, by (repeat (first | (with_reducible assumption) | (with_reducible exact Below.refl _ _) | (with_reducible refine below_drewN' ?_ _) | (with_reducible refine Below.drew ?_) | ((with_reducible refine Below.alloc ?_ ?_ _); rotate_left; focus (first | (simp; done) | (simp; omega) | omega)) | ((with_reducible refine Below.setCell ?_ ?_ _); rotate_left; focus (first | (simp; done) | (simp; omega) | omega))))⟩
  · have her := inR_true he
    obtain ⟨E, rfl⟩ := Int.eq_ofNat_of_zero_le her.1
    simp only [cond_true, Int.toNat_natCast]
    have hEW : E * W + W ≤ L := by
      have : (E + 1) * W ≤ q * W := Nat.mul_le_mul_right _ (by omega)
      rw [Nat.succ_mul] at this; omega
    obtain ⟨lo, hlo⟩ : ∃ lo, E * W = lo := ⟨_, rfl⟩
    rw [hlo] at hEW ⊢
    have hlo1 : (E : Int) * W = (lo : Int) := by rw [← hlo]; simp
    have hlo2 : ((E : Int) + 1) * W = ((lo + W : Nat) : Int) := by rw [Int.add_mul, hlo1]; simp
    have hwl : IntKind.i64.wrap (lo : Int) = (lo : Int) := i64_in (by omega)
    have hR : ((ps.drop lo).take W).length = W := by rw [List.length_take, List.length_drop, HL.out]; omega
    have HRl := Lib.hid hR
    clear hR hlo
    go_enter Try.func14, Try.ntmps14
    go_wp2_with first | (go_at_call 55; refine (l14Size_any _ _).mono ?_; rintro e w' ⟨rfl, rfl⟩) | (go_at_call 56; refine (l15Width_any _ _).mono ?_; rintro e w' ⟨rfl, rfl⟩)
    (go_at_call 58; with_reducible refine (HC.out _).mono ?_; rintro e1 w1 ⟨rfl, hb1⟩; obtain ⟨hc1, hf1⟩ := bcell hb1; have hB1 : Below w.heap.size w w1 := (below_then (by first | (go_grown; done) | (repeat (first | (with_reducible assumption) | (with_reducible exact Below.refl _ _) | (with_reducible refine below_drewN' ?_ _) | (with_reducible refine Below.drew ?_) | ((with_reducible refine Below.alloc ?_ ?_ _); rotate_left; focus (first | (simp; done) | (simp; omega) | omega)) | ((with_reducible refine Below.setCell ?_ ?_ _); rotate_left; focus (first | (simp; done) | (simp; omega) | omega))))) (by first | omega | (simp; done) | (simp; omega)) hb1))
    have hs1 := hb1.size
    go_wp2_with (go_at_call 57; refine (l01In_any _ _ _ _).mono ?_; rintro e w' ⟨rfl, rfl⟩)
    (go_at_call 59; with_reducible refine (HF.out _).mono ?_; rintro e2 w2 ⟨v1, rfl, ho1, hb2⟩; obtain ⟨hc2, hf2⟩ := bcell hb2; have hB2 : Below w.heap.size w w2 := (below_then (by first | (go_grown; done) | (repeat (first | (with_reducible assumption) | (with_reducible exact Below.refl _ _) | (with_reducible refine below_drewN' ?_ _) | (with_reducible refine Below.drew ?_) | ((with_reducible refine Below.alloc ?_ ?_ _); rotate_left; focus (first | (simp; done) | (simp; omega) | omega)) | ((with_reducible refine Below.setCell ?_ ?_ _); rotate_left; focus (first | (simp; done) | (simp; omega) | omega))))) (by first | omega | (simp; done) | (simp; omega)) hb2))
    obtain ⟨A1, c1, rfl⟩ := ho1.shape0
    rw [HL.out] at ho1 ⊢
    have HO1 := Lib.hid ho1
    clear ho1 hc1 hf1 hc2 hf2
    obtain ⟨g, c', e', hB', hg', -⟩ := HO1.out.cells (by rw [HL.out]; omega)
    simp only [Value.slice.injEq] at e'
    obtain ⟨rfl, -, -⟩ := e'
    have hcap := HO1.out.cap HL.out
    have hnews := Lib.hid (OwnP.part (lo := lo) (W := W) (OwnP.alloc HO1.out (.cells #[] 32)))
    have hE := Lib.hid (OwnP.empty (B := w.heap.size) w2 (by have := hb2.size; omega))
    go_wp2_with (at_builtin; refine wpList_append_own_at _ rfl _ _ 26 rfl (w.heap.size) 32 iP (.agg #[.int .i64 0, .int .i64 0]) 2 16 Try.underlying26 HP.out.2.1 HP.out.2.2.1 HP.out.2.2.2.1 HP.out.2.2.2.2 rfl (by decide) (.slice (some ⟨w2.heap.size, 0, none⟩) 0 0) 0 [] rfl hE.out ⟨g, lo * 2, none⟩ (lo + W - lo) _ (pc ((ps.drop lo).take W)) rfl (by rw [pc_len, HRl.out, Nat.add_sub_cancel_left]) hnews.out (pc_ok _) (own_maxP (by decide) (by omega)) (own_bytesP (by decide) (by omega)) (by have := hb2.size; simp; omega) ?_; intro va wa howna hga _ hata)
    have hoa := Lib.hid (show OwnP wa w.heap.size va ((ps.drop lo).take W) by
      have h := howna
      simp only [List.nil_append, Nat.zero_add, Nat.add_sub_cancel_left] at h
      unfold OwnP; rw [HRl.out]; exact h)
    have hBa := Lib.hid ((hB2.alloc (by have := hb2.size; omega) (.cells #[] 32)).grown hga (by have := hb2.size; simp; omega) (fun k hk => by have : w2.heap.size = k := Option.some.inj hk; have := hb2.size; omega))
    clear howna hga hata
    go_wp2_with fail
    go_returns
    exact ⟨va, by simp, hoa.out, hBa.out⟩
end Go.Proofs.Yteghpageamehkaa
namespace Go.Proofs.Yteghpageamehkaa
set_option linter.unusedSimpArgs false
open Go.RowKit

/-- The slice value v owns the bools bs. -/
def OwnB (w : World) (B : Nat) (v : Value) (bs : List Bool) : Prop := w.ownsRow B 4 1 v bs.length (bs.map Value.bool)
theorem nthBo_map (bs : List Bool) (k : Nat) (h : k < bs.length) : (bs.map Value.bool)[k]? = some (.bool (nthBo bs k)) := by
  unfold nthBo; simp [h]
theorem OwnB.keep {w w' : World} {B : Nat} {v : Value} {bs : List Bool} (h : OwnB w B v bs) (hb : Below w.heap.size w w') : OwnB w' B v bs := by
  refine ⟨h.1, ?_⟩
  rcases h.2 with h' | ⟨g, cap, cur, rfl, hB, hg, hr⟩
  · exact .inl h'
  · exact .inr ⟨g, cap, cur, rfl, hB, (hb.block g (lt_of_block hg)).trans hg, hr⟩
theorem OwnB.row {w : World} {B g n c : Nat} {bs : List Bool} (h : OwnB w B (.slice (some ⟨g, 0, none⟩) n c) bs) (hl : bs.length = n) :
    (∀ k, k < n → w.cell? ⟨g, k, none⟩ = some (.bool (nthBo bs k))) ∧ ∀ k, w.frozen? ⟨g, k, none⟩ = false := by
  subst hl
  have hf : w.ownsRow B 4 1 (.slice (some ⟨g, 0, none⟩) bs.length c) bs.length (bs.map Value.bool) := h
  exact ⟨fun k hk => by rw [hf.cellAt k (by omega)]; exact nthBo_map bs k hk, fun k => hf.frozenAt k⟩
theorem OwnB.setn {w : World} {B g n c k : Nat} {bs : List Bool} {u : Bool} (hl : bs.length = n) (h : OwnB w B (.slice (some ⟨g, 0, none⟩) n c) bs) :
    OwnB (w.setCell ⟨g, k, none⟩ (.bool u)) B (.slice (some ⟨g, 0, none⟩) n c) (bs.set k u) := by
  subst hl
  have h1 := (World.ownsRow.stored (show w.ownsRow B 4 1 (.slice (some ⟨g, 0, none⟩) bs.length c) bs.length (bs.map Value.bool) from h) k (.bool u)).1
  unfold OwnB
  rw [List.length_set, List.map_set]
  exact h1
theorem OwnB.made {w : World} {B n : Nat} {v : Value} (h : w.ownsRow B 4 1 v n (madeCells (Value.bool false).cells (n * 1)).toList) : OwnB w B v (List.replicate n false) := by
  rw [show (Value.bool false).cells = #[Value.bool false] from rfl, Nat.mul_one, toList_madeCells_one] at h
  unfold OwnB
  simpa using h
theorem OwnB.lt {w : World} {B g n c : Nat} {bs : List Bool} (h : OwnB w B (.slice (some ⟨g, 0, none⟩) n c) bs) : g < w.heap.size := (World.ownsRow.lt h g rfl).2
theorem info_bools : (Try.prog.info? 4).map (fun i => (i.zero, i.size, i.bytes)) = some (some (.bool false), 1, 1) := by kernel_rfl
set_option maxRecDepth 20000 in
set_option maxHeartbeats 4000000 in
theorem TouchedElements_any (n d : Int) (A : Option Addr) (L cp : Nat) (qs : List (Int × Int)) (w : World) (B : Nat) (hr : RIP w B A L qs) (hB : B ≤ w.heap.size) (hL : L ≤ 2000000) (hI : ∀ q ∈ qs, (-9223372036854775808 ≤ q.1 ∧ q.1 ≤ 9223372036854775807) ∧ (-9223372036854775808 ≤ q.2 ∧ q.2 ≤ 9223372036854775807)) :
    Calls Try.prog 29 #[.int .i64 n, .int .i64 d, .slice A L cp] w fun e w' =>
      ∃ u, e = .returned (.tuple #[u, .int .i64 (tuC n d qs)]) ∧ Own w' w.heap.size u (tuL n d qs) ∧ Below w.heap.size w w' := by
  have HR := Lib.hid (hr.more hB)
  have hlen := hr.len
  clear hr
  unfold tuC tuL
  rw [hlen]
  cases hs : sizeB n
  · go_enter Try.func29, Try.ntmps29
    go_wp2_with (go_at_call 52; refine (isMatrixSize_any _ _).mono ?_; rintro e w' ⟨rfl, rfl⟩)
    go_returns
    exact ⟨.slice none 0 0, by simp, by simpa using Own.nil, by (repeat (first | (with_reducible assumption) | (with_reducible exact Below.refl _ _) | (with_reducible refine below_drewN' ?_ _) | (with_reducible refine Below.drew ?_) | ((with_reducible refine Below.alloc ?_ ?_ _); rotate_left; focus (first | (simp; done) | (simp; omega) | omega)) | ((with_reducible refine Below.setCell ?_ ?_ _); rotate_left; focus (first | (simp; done) | (simp; omega) | omega))))⟩
  cases hd : inR d 1 8
  · go_enter Try.func29, Try.ntmps29
    go_wp2_with first | (go_at_call 52; refine (isMatrixSize_any _ _).mono ?_; rintro e w' ⟨rfl, rfl⟩) | (go_at_call 53; refine (inRange_any _ _ _ _).mono ?_; rintro e w' ⟨rfl, rfl⟩)
    go_returns
    exact ⟨.slice none 0 0, by simp, by simpa using Own.nil, by (repeat (first | (with_reducible assumption) | (with_reducible exact Below.refl _ _) | (with_reducible refine below_drewN' ?_ _) | (with_reducible refine Below.drew ?_) | ((with_reducible refine Below.alloc ?_ ?_ _); rotate_left; focus (first | (simp; done) | (simp; omega) | omega)) | ((with_reducible refine Below.setCell ?_ ?_ _); rotate_left; focus (first | (simp; done) | (simp; omega) | omega))))⟩
  obtain ⟨N, rfl, h1, h2, h3⟩ := sizeB_true hs
  have hdr := inR_true hd
  obtain ⟨K, rfl⟩ := Int.eq_ofNat_of_zero_le (show 0 ≤ d by omega)
  have hN : 17 ≤ N ∧ N ≤ 41 ∧ N % 4 = 1 := ⟨h1, h2, h3⟩
  simp only [cond_true, Int.toNat_natCast]
  by_cases hbig : L ≤ 40000
  · have hbi : (L : Int) ≤ 40000 := by omega
    rw [decide_eq_true hbig]
    simp only [cond_true]
    have HM := Lib.hid (fun w => placeIndicesS_any N w hN)
    have hMx := dataL_le h2
    obtain ⟨ps, hps⟩ : ∃ ps, dataL N = ps := ⟨_, rfl⟩
    rw [hps] at HM hMx ⊢
    obtain ⟨M, hMM⟩ : ∃ M, ps.length = M := ⟨_, rfl⟩
    have HLP := Lib.hid hMM
    rw [hMM] at HM hMx ⊢
    obtain ⟨q, hq⟩ : ∃ q, M / K = q := ⟨_, rfl⟩
    have hqi : (M : Int) / K = (q : Int) := by rw [← hq]; exact (Int.natCast_ediv M K).symm
    have hqM : q ≤ M := by rw [← hq]; exact Nat.div_le_self M K
    have hqw : IntKind.i64.wrap ((M : Int) / K) = (q : Int) := by rw [hqi]; exact i64_in (by omega)
    have hK0 : ¬ K = 0 := by omega
    rw [hq]
    obtain ⟨i0, hi⟩ := info_own' info_i64s
    have HI := Lib.hid (And.intro i0.bytes.le_refl hi)
    obtain ⟨iB, hib⟩ := info_own' info_bools
    have HIB := Lib.hid (And.intro iB.bytes.le_refl hib)
    have HQ := Lib.hid (fun (k : Nat) (hk : k < qs.length) => hI _ (nthP_mem hk))
    have HE := Lib.hid hlen
    clear hps hMM hq hN h3 hqi hi hib hI hlen
    go_enter Try.func29, Try.ntmps29
    go_wp2_with first | (go_at_call 52; refine (isMatrixSize_any _ _).mono ?_; rintro e w' ⟨rfl, rfl⟩) | (go_at_call 53; refine (inRange_any _ _ _ _).mono ?_; rintro e w' ⟨rfl, rfl⟩)
    (go_at_call 60; with_reducible refine (HM.out _).mono ?_; rintro e1 w1 ⟨bm, nm, rfl, hbm, hM1, hb1⟩)
    have HM1 := Lib.hid hM1
    have HB1 := Lib.hid hb1
    have hs1 := hb1.size
    have hbmw := hM1.lt
    obtain ⟨D, hD1, -, hD3⟩ := hM1
    clear hb1
    go_wp2_with first | (at_len; refine wpList_len_own _ rfl _ 77 rfl 32 2 Try.underlying77 _ bm nm D rfl hD1 ?_; rw [hD3]) | (at_make; refine wpList_make_full w1 rfl _ _ 87 rfl w1.heap.size 4 iB (.bool false) 1 Try.underlying87 HIB.out.2.1 HIB.out.2.2.1 HIB.out.2.2.2.1 .i64 .i64 q q q (by rfl) (by rfl) rfl rfl (by rw [HIB.out.2.2.2.2]; omega) (by unfold maxLen; omega) (Nat.le_refl _) ?_; intro w2 hown2 hgrow2)
    have HO2 : Hid (OwnB w2 w1.heap.size (.slice (some ⟨w1.heap.size, 0, none⟩) q q) (List.replicate q false)) := Lib.hid (OwnB.made hown2)
    have HB2 : Hid (Below w1.heap.size w1 w2) := Lib.hid ((Below.refl _ _).grown hgrow2 (Nat.le_refl _) (fun k hk => by cases hk))
    clear hown2 hgrow2 hD1 hD3
    go_wp2_with fail
    go_loopw [11, 12, 13, 37] (fun q1 q2 q3 i wr => ∃ k : Nat, k ≤ L ∧ i = .int .i64 k ∧ Hid (OwnB wr w1.heap.size (.slice (some ⟨w1.heap.size, 0, none⟩) q q) (tchB ps qs K q k)) ∧ Hid (Below w1.heap.size w1 wr))
      (fun _ _ _ i _ => L - (intOf i).toNat)
    case atStart => exact ⟨0, Nat.zero_le _, rfl, HO2, HB2⟩
    case round =>
      rename World => wo
      obtain ⟨k, hk, rfl, hown, hbel⟩ := hrel
      have hso := hbel.out.size
      have HBo := Lib.hid (HB1.out.trans (hbel.out.mono hs1))
      have hgl := hown.out.lt
      by_cases hkl : k < L
      · obtain ⟨b, o, rfl, hb, hc⟩ := (HR.out.below HBo.out).cells (by omega)
        obtain ⟨p0, p1⟩ := hc k hkl
        have hpi := HQ.out k (by rw [HE.out]; exact hkl)
        have htl := tchB_len ps qs K q k
        have hst : tchB ps qs K q (k + 1) = tch1 (ixL ps (nthP qs k).1 (nthP qs k).2 M) K q (tchB ps qs K q k) := by rw [← HLP.out]; rfl
        generalize tchB ps qs K q k = bs at hown htl hst
        obtain ⟨hcb, hfb⟩ := hown.out.row htl
        generalize nthP qs k = p at p0 p1 hpi hst
        obtain ⟨pr, pc'⟩ := p
        simp only at p0 p1 hpi hst
        have HMo := Lib.hid ((HM1.out.below hbel.out hbmw).below ((Below.refl wo.heap.size wo).alloc (Nat.le_refl _) (.cells #[.int .i64 pr, .int .i64 pc'] 32)) (by omega))
        have hlk := HMo.out.q.look (show I64 pr by unfold I64; omega) (show I64 pc' by unfold I64; omega)
        have hin := ixL_in (ps := ps) (r := pr) (c := pc') (n := M)
        generalize ixL ps pr pc' M = ox at hlk hst hin
        have HTL := Lib.hid htl
        have hbz : b < wo.heap.size := by omega
        have hmz : bm < wo.heap.size := by omega
        clear hc htl
        cases ox with
        | none =>
          simp only [Option.getD_none, Option.isSome_none] at hlk
          have HS := Lib.hid (show tchB ps qs K q (k + 1) = bs from hst)
          clear hst hcb hfb hin
          go_wp2_with fail
          go_roundw
          case rel => exact ⟨k + 1, by omega, by go_num, Lib.hid (by rw [HS.out]; exact hown.out.keep ((Below.refl _ _).alloc (Nat.le_refl _) _)), Lib.hid (hbel.out.alloc hso _)⟩
          case measure => simp [intOf]; omega
        | some x =>
          simp only [Option.getD_some, Option.isSome_some] at hlk hin
          obtain ⟨X, rfl⟩ := Int.eq_ofNat_of_zero_le hin.1
          obtain ⟨E, hE⟩ : ∃ E, X / K = E := ⟨_, rfl⟩
          have hEw : IntKind.i64.wrap ((X : Int) / K) = (E : Int) := by rw [← Int.natCast_ediv, hE]; exact i64_in (by have := Nat.div_le_self X K; omega)
          simp only [tch1, Int.toNat_natCast, hE] at hst
          clear hE
          by_cases hEq : E < q
          · rw [if_pos hEq] at hst
            have HS := Lib.hid hst
            have hck := hcb E hEq
            have hfk := hfb E
            clear hst hcb hfb
            go_wp2_with fail
            go_roundw
            case rel => exact ⟨k + 1, by omega, by go_num, Lib.hid (by rw [HS.out]; exact (OwnB.setn HTL.out hown.out).keep ((Below.refl _ _).alloc (Nat.le_refl _) _)), Lib.hid ((hbel.out.setCell (Nat.le_refl _) _).alloc (by simpa using hso) _)⟩
            case measure => simp [intOf]; omega
          · rw [if_neg hEq] at hst
            have HS := Lib.hid hst
            have hEq' : ¬ (E : Int) < q := by omega
            clear hst hcb hfb
            go_wp2_with fail
            go_roundw
            case rel => exact ⟨k + 1, by omega, by go_num, Lib.hid (by rw [HS.out]; exact hown.out.keep ((Below.refl _ _).alloc (Nat.le_refl _) _)), Lib.hid (hbel.out.alloc hso _)⟩
            case measure => simp [intOf]; omega
      · obtain rfl : k = L := by omega
        have htl := tchB_len ps qs K q k
        obtain ⟨bs, hbs⟩ : ∃ bs, tchB ps qs K q k = bs := ⟨_, rfl⟩
        rw [hbs] at hown htl
        have HBS := Lib.hid hbs
        have HTL := Lib.hid htl
        have HE0 : Hid (Own (wo.alloc (.cells #[] 2)) wo.heap.size (.slice (some ⟨wo.heap.size, 0, none⟩) 0 0) []) := Lib.hid (World.ownsRow_made (e := 2) (size := 1) (base := wo.heap.size) wo #[] 0 (Nat.le_refl _) (by unfold maxLen; omega) rfl)
        have HBE : Hid (Below wo.heap.size wo (wo.alloc (.cells #[] 2))) := Lib.hid (by go_grown)
        have hwo : w.heap.size ≤ wo.heap.size := by omega
        clear htl hbs
        go_wp2_with fail
        go_loopw [14, 15, 16, 65] (fun s q1 q2 i wr => ∃ m : Nat, m ≤ q ∧ i = .int .i64 m ∧ Hid (Own wr wo.heap.size s (idxL (nthBo bs) m)) ∧ Hid (Below wo.heap.size wo wr))
          (fun _ _ _ i _ => q - (intOf i).toNat)
        case atStart => exact ⟨0, Nat.zero_le _, rfl, HE0, HBE⟩
        case round =>
          rename World => wq
          obtain ⟨m, hm, rfl, hout, hbq⟩ := hrel
          have hsq := hbq.out.size
          by_cases hml : m < q
          · have hck := (hbq.out.cell (p := ⟨w1.heap.size, m, none⟩) hgl).trans ((hown.out.row HTL.out).1 m hml)
            have hst : idxL (nthBo bs) (m + 1) = bif nthBo bs m then idxL (nthBo bs) m ++ [(m : Int)] else idxL (nthBo bs) m := rfl
            have hll := idxL_len (nthBo bs) m
            cases hbv : nthBo bs m with
            | true =>
              rw [hbv] at hck hst
              have HS := Lib.hid hst
              have hbsz := Lib.hid hsq
              clear hst hbv
              go_wp2_with (at_builtin; refine wpList_append_own _ rfl _ _ 35 rfl (wo.heap.size) 2 i0 (.int .i64 0) 1 8 Try.underlying35 HI.out.2.1 HI.out.2.2.1 HI.out.2.2.2.1 HI.out.2.2.2.2 rfl (by decide) _ _ _ rfl (Own.alloc hout.out _) ⟨wq.heap.size, 0, none⟩ 1 1 [.int .i64 ((m : Int))] rfl rfl (cell_one_new _ _ _) (one_ok _) (own_max hout.out (by omega)) (own_bytes hout.out (by omega)) (own_base hbsz.out) ?_; intro va wa howna hgrowa _; have hoa := Lib.hid (Own.snoc howna); have hga := Lib.hid hgrowa; clear howna hgrowa)
              go_roundw
              case rel => exact ⟨m + 1, by omega, by go_num, Lib.hid (by rw [HS.out]; exact hoa.out), Lib.hid (Own.below_grown hout.out hbq.out hsq hga.out)⟩
              case measure => simp [intOf]; omega
            | false =>
              rw [hbv] at hck hst
              have HS := Lib.hid hst
              clear hst hbv
              go_wp2_with fail
              go_roundw
              case rel => exact ⟨m + 1, by omega, by go_num, Lib.hid (by rw [HS.out]; exact hout.out), hbq⟩
              case measure => simp [intOf]; omega
          · obtain rfl : m = q := by omega
            go_wp2_with fail
            go_returns
            rw [HBS.out]
            exact ⟨_, by simp, hout.out.more hwo, HBo.out.trans (hbq.out.mono hwo)⟩
  · have hbi : ¬ (L : Int) ≤ 40000 := by omega
    rw [decide_eq_false hbig]
    go_enter Try.func29, Try.ntmps29
    go_wp2_with first | (go_at_call 52; refine (isMatrixSize_any _ _).mono ?_; rintro e w' ⟨rfl, rfl⟩) | (go_at_call 53; refine (inRange_any _ _ _ _).mono ?_; rintro e w' ⟨rfl, rfl⟩)
    go_returns
    exact ⟨.slice none 0 0, by simp, by simpa using Own.nil, by (repeat (first | (with_reducible assumption) | (with_reducible exact Below.refl _ _) | (with_reducible refine below_drewN' ?_ _) | (with_reducible refine Below.drew ?_) | ((with_reducible refine Below.alloc ?_ ?_ _); rotate_left; focus (first | (simp; done) | (simp; omega) | omega)) | ((with_reducible refine Below.setCell ?_ ?_ _); rotate_left; focus (first | (simp; done) | (simp; omega) | omega))))⟩
end Go.Proofs.Yteghpageamehkaa
namespace Go.Proofs.Yteghpageamehkaa
set_option linter.unusedSimpArgs false
open Go.RowKit

theorem atL_b {N : Nat} {xs : List Int} {ps : List (Int × Int)} (hal : allIn (-1) 1 xs = true) (hl : xs.length = N * N) (hin : ∀ p ∈ ps, 0 ≤ p.1 ∧ 0 ≤ p.2 ∧ p.1 < N ∧ p.2 < N) : ∀ k, k < (atL N xs ps).length → -1 ≤ nth (atL N xs ps) k ∧ nth (atL N xs ps) k ≤ 1 := by
  intro k hk
  rw [atL_len] at hk
  rw [atL_nth hk]
  exact allIn_nth hal (by rw [hl]; exact (idxP_lt (hin _ (nthP_mem hk))).1)
theorem shl1 {x c : Int} (hx : 0 ≤ x) (hx' : x < 256) (hc : 0 ≤ c) (hc' : c ≤ 1) : bits .or .i64 (x * 2) c = 2 * x + c := by
  obtain ⟨a, rfl⟩ := Int.eq_ofNat_of_zero_le hx
  have e := Nat.two_pow_add_eq_or_of_lt (i := 1) (b := 1) (by decide) a
  rw [show ((a : Int) * 2) = ((2 * a : Nat) : Int) by omega]
  rcases (by omega : c = 0 ∨ c = 1) with rfl | rfl
  · rw [show (0 : Int) = ((0 : Nat) : Int) from rfl, i64_or _ _ (by omega) (by decide), Nat.or_zero]; omega
  · rw [show (1 : Int) = ((1 : Nat) : Int) from rfl, i64_or _ _ (by omega) (by decide)]
    rw [Nat.pow_one] at e; rw [← e]; omega
theorem two_empty (w : World) : TwoI ((w.alloc (.cells #[] 2)).alloc (.cells #[] 2)) w.heap.size (.slice (some ⟨w.heap.size, 0, none⟩) 0 0) [] (.slice (some ⟨w.heap.size + 1, 0, none⟩) 0 0) [] := by
  refine ⟨?_, ?_, fun k h1 h2 => ?_⟩
  · have := World.ownsRow.alloc (World.ownsRow_made (e := 2) (size := 1) (base := w.heap.size) w #[] 0 (Nat.le_refl _) (by unfold maxLen; omega) rfl) (.cells #[] 2)
    simpa [Own] using this
  · have := World.ownsRow_made (e := 2) (size := 1) (base := w.heap.size) (w.alloc (.cells #[] 2)) #[] 0 (by simp) (by unfold maxLen; omega) rfl
    simpa [Own] using this
  · simp [Value.ownBlock] at h1 h2; omega
theorem Own.cap {w : World} {B g L c : Nat} {xs : List Int} (h : Own w B (.slice (some ⟨g, 0, none⟩) L c) xs) (hl : xs.length = L) : L ≤ c := by
  rcases h.2 with ⟨h', _⟩ | ⟨g', cap, cur, h', _, _, hn, _⟩
  · simp at h'
  · simp only [Value.slice.injEq, Option.some.injEq, Addr.mk.injEq, and_true] at h'
    obtain ⟨-, -, rfl⟩ := h'
    omega
set_option maxRecDepth 20000 in
set_option maxHeartbeats 4000000 in
theorem takeElements_any (N b o cp K : Nat) (xs : List Int) (w : World) (B : Nat) (hN : 17 ≤ N ∧ N ≤ 41 ∧ N % 4 = 1) (hK : 1 ≤ K ∧ K ≤ 8) (hr : RI w B (some ⟨b, o, none⟩) (N * N) xs) (hB : B ≤ w.heap.size) (hl : xs.length = N * N) (hal : allIn (-1) 1 xs = true) :
    Calls Try.prog 73 #[.agg #[.int .i64 N, .int .i64 N, .slice (some ⟨b, o, none⟩) (N * N) cp], .int .i64 K] w fun e w' =>
      ∃ v1 v2, e = .returned (.tuple #[v1, v2]) ∧ TwoI w' w.heap.size v1 (elL (atL N xs (dataL N)) K ((dataL N).length / K)) v2 (unL (atL N xs (dataL N)) K ((dataL N).length / K)) ∧ Below w.heap.size w w' := by
  obtain ⟨i0, hi⟩ := info_own' info_i64s
  have HI := Lib.hid (And.intro i0.bytes.le_refl hi)
  have HR := Lib.hid (hr.more hB)
  have hN1 := hN.1
  have hN2 := hN.2.1
  have hK1 := hK.1
  have hK2 := hK.2
  have HD := Lib.hid (fun w => dataPlaces_any N w hN)
  have HIN := Lib.hid (data_in4 hN)
  have HB := Lib.hid (atL_b hal hl (data_in4 hN))
  have hMx := dataL_le hN2
  have hM0 := data_pos hN
  have hMl := atL_len N xs (dataL N)
  obtain ⟨ps, hps⟩ : ∃ ps, dataL N = ps := ⟨_, rfl⟩
  have HD : Hid (∀ w, Calls Try.prog 54 #[.int .i64 N] w fun e w' => ∃ v, e = .returned v ∧ OwnP w' w.heap.size v ps ∧ Below w.heap.size w w') := Lib.hid (by rw [← hps]; exact HD.out)
  rw [hps] at HIN HB hMx hM0 hMl ⊢
  obtain ⟨M, hMM⟩ : ∃ M, ps.length = M := ⟨_, rfl⟩
  have HLP := Lib.hid hMM
  rw [hMM] at hMx hM0 hMl ⊢
  have HC := Lib.hid (fun (g cq : Nat) (w : World) (B : Nat) (hr : RI w B (some ⟨b, o, none⟩) (N * N) xs) (hp : RP w B g ps) (hB : B ≤ w.heap.size) => cellsAt_any N b o cp g cq M xs ps w B hr hp hB HLP.out (by omega) HIN.out hN2)
  obtain ⟨cs, hcs⟩ : ∃ cs, atL N xs ps = cs := ⟨_, rfl⟩
  rw [hcs] at HC HB hMl ⊢
  have HCL := Lib.hid hMl
  have HBB : Hid (∀ a j, a + j ≤ M → j ≤ 8 → -1 ≤ tkV cs a j ∧ tkV cs a j < 256) := Lib.hid (fun a j h1 h2 => tkV_256 HB.out (by rw [HCL.out]; exact h1) h2)
  obtain ⟨m, hm⟩ : ∃ m, M / K = m := ⟨_, rfl⟩
  have hmK : m * K ≤ M := by rw [← hm]; exact Nat.div_mul_le_self M K
  have hmK2 : M < m * K + K := by
    have := Nat.lt_div_mul_add (a := M) (b := K) (by omega)
    rw [hm] at this; exact this
  rw [hm]
  have HMK := Lib.hid (And.intro hmK hmK2)
  obtain ⟨W1, hW1⟩ : ∃ W1, W1 = w.alloc (.cells #[.int .i64 (N : Int), .int .i64 (N : Int), .slice (some ⟨b, o, none⟩) (N * N) cp] 37) := ⟨_, rfl⟩
  have HX1 : Hid (W1.heap[w.heap.size]? = some (.cells #[.int .i64 (N : Int), .int .i64 (N : Int), .slice (some ⟨b, o, none⟩) (N * N) cp] 37 (0, 0))) := Lib.hid (by rw [hW1]; exact heap_alloc_new _ _)
  have HW : Hid (Below w.heap.size w W1) := Lib.hid (by rw [hW1]; exact (Below.refl _ _).alloc (Nat.le_refl _) _)
  have hws : w.heap.size < W1.heap.size := by rw [hW1]; simp
  have HR1 := Lib.hid (HR.out.below HW.out)
  clear hps hMM hm hcs hMl hmK hmK2 hi hr hal hl hN hB
  go_enter Try.func73, Try.ntmps73
  go_wp2_with fail
  rw [← hW1]
  clear hW1
  obtain ⟨y0, y1, y2, -⟩ := blk3 HX1.out
  go_region_held3 (fun w' => w'.cell? ⟨w.heap.size, 0, none⟩ = some (.int .i64 (N : Int)) ∧ w'.cell? ⟨w.heap.size, 1, none⟩ = some (.int .i64 (N : Int)) ∧ w'.cell? ⟨w.heap.size, 2, none⟩ = some (.slice (some ⟨b, o, none⟩) (N * N) cp))
      (first | (exact ⟨q0, q1, q2⟩) | (exact ⟨y0, y1, y2⟩) | go_keep)
      (first
        | (go_at_call 54; with_reducible refine (HD.out _).mono ?_; rintro e3 w3 ⟨v3, rfl, ho3, hb3⟩; have hD3 : Below W1.heap.size W1 w3 := below_then (by (repeat (first | (with_reducible assumption) | (with_reducible exact Below.refl _ _) | (with_reducible refine below_drewN' ?_ _) | (with_reducible refine Below.drew ?_) | ((with_reducible refine Below.alloc ?_ ?_ _); rotate_left; focus (first | (simp; done) | (simp; omega) | omega)) | ((with_reducible refine Below.setCell ?_ ?_ _); rotate_left; focus (first | (simp; done) | (simp; omega) | omega))))) (by first | omega | (simp; done) | (simp; omega)) hb3; have hsz3 := hD3.size; obtain ⟨q0, q1, q2, -⟩ := blk3 ((hD3.block w.heap.size hws).trans HX1.out); obtain ⟨g3, c3, rfl, -, hgw3, -⟩ := ho3.cells (by rw [HLP.out]; exact hM0); rw [HLP.out] at ho3 ⊢; have HP3 := Lib.hid (RP.of ho3 HLP.out hM0); have HD3 := Lib.hid hD3; clear hb3 ho3)
        | (go_at_call 88; with_reducible refine (HC.out _ _ _ _ (RI.below (B := w3.heap.size) ((HR1.out.below (HD3.out.mono (Nat.le_of_lt hws))).more (by omega)) (by (repeat (first | (with_reducible assumption) | (with_reducible exact Below.refl _ _) | (with_reducible refine below_drewN' ?_ _) | (with_reducible refine Below.drew ?_) | ((with_reducible refine Below.alloc ?_ ?_ _); rotate_left; focus (first | (simp; done) | (simp; omega) | omega)) | ((with_reducible refine Below.setCell ?_ ?_ _); rotate_left; focus (first | (simp; done) | (simp; omega) | omega)))))) ((HP3.out).below (B' := w3.heap.size) (by (repeat (first | (with_reducible assumption) | (with_reducible exact Below.refl _ _) | (with_reducible refine below_drewN' ?_ _) | (with_reducible refine Below.drew ?_) | ((with_reducible refine Below.alloc ?_ ?_ _); rotate_left; focus (first | (simp; done) | (simp; omega) | omega)) | ((with_reducible refine Below.setCell ?_ ?_ _); rotate_left; focus (first | (simp; done) | (simp; omega) | omega))))) (Nat.le_refl _)) (by first | omega | (simp; done) | (simp; omega))).mono ?_; rintro e4 w4 ⟨v4, rfl, ho4, hb4⟩; have hD4 : Below W1.heap.size W1 w4 := below_then (by (repeat (first | (with_reducible assumption) | (with_reducible exact Below.refl _ _) | (with_reducible refine below_drewN' ?_ _) | (with_reducible refine Below.drew ?_) | ((with_reducible refine Below.alloc ?_ ?_ _); rotate_left; focus (first | (simp; done) | (simp; omega) | omega)) | ((with_reducible refine Below.setCell ?_ ?_ _); rotate_left; focus (first | (simp; done) | (simp; omega) | omega))))) (by first | omega | (simp; done) | (simp; omega)) hb4; have hsz4 := hD4.size; obtain ⟨q0, q1, q2, -⟩ := blk3 ((hD4.block w.heap.size hws).trans HX1.out); have HO4 := Lib.hid ho4; clear ho4 hb4))
  have HW4 := Lib.hid (HW.out.trans (hD4.mono (Nat.le_of_lt hws)))
  obtain ⟨g, c4, rfl, -, hg4, hc4, -⟩ := HO4.out.row (by rw [HCL.out]; exact hM0)
  have HC4 : Hid (∀ k, k < M → w4.cell? ⟨g, k, none⟩ = some (.int .i64 (nth cs k))) := Lib.hid (fun k hk => hc4 k (by rw [HCL.out]; exact hk))
  have hcap := HO4.out
  rw [HCL.out] at hcap ⊢
  have hcap := hcap.cap HCL.out
  have HE := Lib.hid (two_empty w4)
  have HBE : Hid (Below w4.heap.size w4 ((w4.alloc (.cells #[] 2)).alloc (.cells #[] 2))) := Lib.hid (by go_grown)
  clear hc4 q0 q1 q2 y0 y1 y2 HO4 hD4 hD3
  have hw4 : w.heap.size ≤ w4.heap.size := by omega
  go_wp2_with fail
  go_loopw [7, 8, 9] (fun s1 s2 at' wr => ∃ e : Nat, e ≤ m ∧ at' = .int .i64 ((e * K : Nat) : Int) ∧ Hid (TwoI wr w4.heap.size s1 (elL cs K e) s2 (unL cs K e)) ∧ Hid (Below w4.heap.size w4 wr))
    (fun _ _ q _ => M - (intOf q).toNat)
  case atStart => exact ⟨0, Nat.zero_le _, by simp, HE, HBE⟩
  case round =>
    obtain ⟨e, he, rfl, hT, hbel⟩ := hrel
    obtain ⟨a, ha⟩ : ∃ a, e * K = a := ⟨_, rfl⟩
    have ha2 : (e + 1) * K = a + K := by rw [Nat.succ_mul, ha]
    have HA2 := Lib.hid ha2
    rw [ha]
    by_cases hlt : e < m
    · have haK : a + K ≤ M := by
        have h1 := Nat.mul_le_mul_right K (show e + 1 ≤ m by omega)
        have h2 := HMK.out.1
        omega
      have hal : a ≤ M := by omega
      have hAK : (a : Int) + K ≤ M := by omega
      have hAc : 0 ≤ (a : Int) + K ∧ (a : Int) + K ≤ c4 := by omega
      have hst1 := Lib.hid (show elL cs K (e + 1) = elL cs K e ++ [max 0 (tkV cs a K)] by rw [← ha]; rfl)
      have hst2 := Lib.hid (show unL cs K (e + 1) = bif decide (tkV cs a K < 0) then unL cs K e ++ [(e : Int)] else unL cs K e by rw [← ha]; rfl)
      have hl1 := elL_len cs K e
      have hl2 := unL_len cs K e
      have hem : e ≤ 1640 := by
        have h1 := Nat.le_mul_of_pos_right e (show 0 < K by omega)
        omega
      generalize elL cs K e = L1 at hT hst1 hl1
      generalize unL cs K e = L2 at hT hst2 hl2
      obtain ⟨A1, c1, rfl, -⟩ := hT.out.1.shape
      rw [hl1] at hT ⊢
      have hl1' : L1.length ≤ 1640 := by omega
      have HL1 := Lib.hid hl1
      clear ha ha2 hl1
      have hgw4 : g < w4.heap.size := hg4
      go_wp2_with fail
      go_loopw [10, 12, 36] (fun x q1 q wr' => ∃ j : Nat, j ≤ K ∧ q = .int .i64 j ∧ x = .int .i64 (tkV cs a j) ∧ wr' = wr)
        (fun _ _ q _ => K - (intOf q).toNat)
      case atStart => exact ⟨0, Nat.zero_le _, rfl, rfl, rfl⟩
      case round =>
        obtain ⟨j, hj, rfl, rfl, rfl⟩ := hrel
        by_cases hjl : j < K
        · have hck := (hbel.out.cell (p := ⟨g, a + j, none⟩) hgw4).trans (HC4.out (a + j) (by omega))
          have hcb := HB.out (a + j) (by rw [HCL.out]; omega)
          have hxb := HBB.out a j (by omega) (by omega)
          have hstj := Lib.hid (show tkV cs a (j + 1) = tkS (tkV cs a j) (nth cs (a + j)) from rfl)
          generalize nth cs (a + j) = c at hck hcb hstj
          generalize tkV cs a j = x at hxb hstj ⊢
          by_cases hc0 : c < 0
          · have hv : Hid (tkV cs a (j + 1) = -1) := Lib.hid (by rw [hstj.out]; simp [tkS, hc0])
            go_wp2_with fail
            go_roundw
            case rel => exact ⟨j + 1, by omega, by go_num, by rw [hv.out], by first | rfl | trivial⟩
            case measure => simp [intOf]; omega
          · by_cases hx0 : x < 0
            · have hv : Hid (tkV cs a (j + 1) = -1) := Lib.hid (by rw [hstj.out]; simp [tkS, hx0])
              go_wp2_with fail
              go_roundw
              case rel => exact ⟨j + 1, by omega, by go_num, by rw [hv.out], by first | rfl | trivial⟩
              case measure => simp [intOf]; omega
            · have hv : Hid (tkV cs a (j + 1) = 2 * x + c) := Lib.hid (by rw [hstj.out]; simp [tkS, hc0, hx0])
              have hor := shl1 (x := x) (c := c) (by omega) (by omega) (by omega) (by omega)
              go_wp2_with fail
              go_roundw
              case rel => exact ⟨j + 1, by omega, by go_num, by rw [hv.out], by first | rfl | trivial⟩
              case measure => simp [intOf]; omega
        · obtain rfl : j = K := by omega
          obtain ⟨X, hX⟩ : ∃ X, tkV cs a j = X := ⟨_, rfl⟩
          rw [hX] at hst1 hst2 ⊢
          clear hX
          by_cases hX0 : X < 0
          · have e1 : Hid (elL cs j (e + 1) = L1 ++ [0]) := Lib.hid (by rw [hst1.out, show max 0 X = 0 by omega])
            have e2 : Hid (unL cs j (e + 1) = L2 ++ [(e : Int)]) := Lib.hid (by rw [hst2.out, decide_eq_true hX0]; rfl)
            go_wp2_with first | ((at_builtin; refine wpList_append_own_at _ rfl _ _ 35 rfl (w4.heap.size) 2 i0 (.int .i64 0) 1 8 Try.underlying35 HI.out.2.1 HI.out.2.2.1 HI.out.2.2.2.1 HI.out.2.2.2.2 rfl (by decide) _ _ _ rfl (Own.alloc (hT.out.2.1) _) ⟨wr.heap.size, 0, none⟩ 1 1 [.int .i64 ((e : Int))] rfl rfl (cell_one_new _ _ _) (one_ok _) (own_max (hT.out.2.1) (by omega)) (own_bytes (hT.out.2.1) (by omega)) (own_base (hbel.out.size)) ?_; intro va wa howna hga _ hata; have hoa := Own.snoc howna; clear howna); have hT1 := Lib.hid (hT.out.symm.first hoa hga hata).symm; have hB1 := Lib.hid (Own.below_grown hT.out.2.1 hbel.out hbel.out.size hga); clear hoa hga hata) | (at_builtin; refine wpList_append_own_at _ rfl _ _ 35 rfl (w4.heap.size) 2 i0 (.int .i64 0) 1 8 Try.underlying35 HI.out.2.1 HI.out.2.2.1 HI.out.2.2.2.1 HI.out.2.2.2.2 rfl (by decide) _ _ _ rfl (Own.alloc (hT1.out.1) _) ⟨wa.heap.size, 0, none⟩ 1 1 [.int .i64 (0)] rfl rfl (cell_one_new _ _ _) (one_ok _) (own_max (hT1.out.1) (by omega)) (own_bytes (hT1.out.1) (by omega)) (own_base (hB1.out.size)) ?_; intro vb wb hownb hgb _ hatb; have hob := Own.snoc hownb; clear hownb)
            have hT2 := Lib.hid (hT1.out.first hob hgb hatb)
            have hB2 := Lib.hid (Own.below_grown hT1.out.1 hB1.out hB1.out.size hgb)
            clear hob hgb hatb
            go_wp2_with fail
            go_roundw
            case rel => exact ⟨e + 1, by omega, by rw [HA2.out]; go_num, Lib.hid (by rw [e1.out, e2.out]; exact hT2.out), hB2⟩
            case measure => simp [intOf]; omega
          · have e1 : Hid (elL cs j (e + 1) = L1 ++ [X]) := Lib.hid (by rw [hst1.out, show max 0 X = X by omega])
            have e2 : Hid (unL cs j (e + 1) = L2) := Lib.hid (by rw [hst2.out, decide_eq_false hX0]; rfl)
            go_wp2_with (at_builtin; refine wpList_append_own_at _ rfl _ _ 35 rfl (w4.heap.size) 2 i0 (.int .i64 0) 1 8 Try.underlying35 HI.out.2.1 HI.out.2.2.1 HI.out.2.2.2.1 HI.out.2.2.2.2 rfl (by decide) _ _ _ rfl (Own.alloc (hT.out.1) _) ⟨wr.heap.size, 0, none⟩ 1 1 [.int .i64 (X)] rfl rfl (cell_one_new _ _ _) (one_ok _) (own_max (hT.out.1) (by omega)) (own_bytes (hT.out.1) (by omega)) (own_base (hbel.out.size)) ?_; intro vb wb hownb hgb _ hatb; have hob := Own.snoc hownb; clear hownb)
            have hT2 := Lib.hid (hT.out.first hob hgb hatb)
            have hB2 := Lib.hid (Own.below_grown hT.out.1 hbel.out hbel.out.size hgb)
            clear hob hgb hatb
            go_wp2_with fail
            go_roundw
            case rel => exact ⟨e + 1, by omega, by rw [HA2.out]; go_num, Lib.hid (by rw [e1.out, e2.out]; exact hT2.out), hB2⟩
            case measure => simp [intOf]; omega
    · obtain rfl : e = m := by omega
      have haM : ¬ (a : Int) + K ≤ M := by
        have h2 := HMK.out.2
        omega
      have hal : a ≤ M := by have h2 := HMK.out.1; omega
      go_wp2_with fail
      first | go_ret | go_returns
      exact ⟨_, _, rfl, hT.out.more hw4, HW4.out.trans (hbel.out.mono hw4)⟩
end Go.Proofs.Yteghpageamehkaa
