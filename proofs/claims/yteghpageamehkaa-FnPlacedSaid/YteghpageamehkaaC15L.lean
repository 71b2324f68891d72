/-
  Contracts of chapter 15: the cells of an element.
-/
import Derived.Test.YteghpageamehkaaC15E
import Derived.Test.YteghpageamehkaaC15C
import Derived.Test.YteghpageamehkaaPlW
import Derived.Test.YteghpageamehkaaArgG
namespace Go.Proofs.Yteghpageamehkaa
set_option linter.unusedSimpArgs false
open Go.ChangeShapes Go.WideShapes Go.ChangeAt Go.RowKit Go.Deep

def epC (n d e : Int) : Int := bif sizeB n && inR d 1 8 then (bif inR e 0 ((((dataL n.toNat).length / d.toNat : Nat) : Int) - 1) then 0 else 4) else 2
def epR (n d e : Int) : List (Int × Int) := bif sizeB n && inR d 1 8 then (bif inR e 0 ((((dataL n.toNat).length / d.toNat : Nat) : Int) - 1) then ((dataL n.toNat).drop (e.toNat * d.toNat)).take d.toNat else []) else []
theorem epR_le (n d e : Int) : (epR n d e).length ≤ 1640 := by
  unfold epR
  cases hs : sizeB n
  · simp
  · obtain ⟨N, rfl, h1, h2, h3⟩ := sizeB_true hs
    have := dataL_le h2
    cases inR d 1 8
    · simp
    · simp only [Bool.and_self, cond_true, Int.toNat_natCast]
      generalize inR e 0 _ = b
      cases b
      · simp
      · simp only [cond_true]
        rw [List.length_take, List.length_drop]; omega
theorem pc_drop : ∀ (k : Nat) (ps : List (Int × Int)), pc (ps.drop k) = (pc ps).drop (k * 2) := by
  intro k
  induction k with
  | zero => intro ps; simp
  | succ k ih =>
    intro ps
    cases ps with
    | nil => simp [pc]
    | cons p ps => rw [show (k + 1) * 2 = k * 2 + 1 + 1 by omega]; simp only [List.drop_succ_cons, pc]; exact ih ps
theorem pc_take : ∀ (k : Nat) (ps : List (Int × Int)), pc (ps.take k) = (pc ps).take (k * 2) := by
  intro k
  induction k with
  | zero => intro ps; simp [pc]
  | succ k ih =>
    intro ps
    cases ps with
    | nil => simp [pc]
    | cons p ps => rw [show (k + 1) * 2 = k * 2 + 1 + 1 by omega]; simp only [List.take_succ_cons, pc]; rw [ih ps]
theorem add_off (g a j : Nat) : (⟨g, a, none⟩ : Addr).add j = (⟨g, 0, none⟩ : Addr).add (a + j) := by
  unfold Addr.add
  by_cases h1 : j = 0
  · subst h1
    by_cases h2 : a = 0
    · subst h2; rfl
    · simp [h2]
  · have h2 : a + j ≠ 0 := by omega
    simp [h1, h2]
theorem OwnP.part {w : World} {B g L c lo W : Nat} {ps : List (Int × Int)} (h : OwnP w B (.slice (some ⟨g, 0, none⟩) L c) ps) :
    ∀ j u, (pc ((ps.drop lo).take W))[j]? = some u → w.cell? ((⟨g, lo * 2, none⟩ : Addr).add j) = some u := by
  intro j u hj
  rw [pc_take, pc_drop, List.getElem?_take] at hj
  split at hj
  · rw [List.getElem?_drop] at hj
    rw [add_off]
    exact World.ownsRow.cells h rfl _ _ hj
  · cases hj
theorem OwnP.cap {w : World} {B g L c : Nat} {ps : List (Int × Int)} (h : OwnP w B (.slice (some ⟨g, 0, none⟩) L c) ps) (hl : ps.length = L) : L ≤ c := by
  rcases h.2 with ⟨h', _⟩ | ⟨g', cap, cur, h', _, _, hn, _⟩
  · simp at h'
  · simp only [Value.slice.injEq, Option.some.injEq, Addr.mk.injEq, and_true] at h'
    obtain ⟨-, -, rfl⟩ := h'
    omega
theorem l15Width_any (d : Int) (w : World) : Calls Try.prog 56 #[.int .i64 d] w fun e w' => e = .returned (.bool (inR d 1 8)) ∧ w = w' := by
  cases h : inR d 1 8
  all_goals
    go_enter Try.func56, Try.ntmps56
    go_wp2_with (go_at_call 57; refine (l01In_any _ _ _ _).mono ?_; rintro e w' ⟨rfl, rfl⟩)
    go_ret
    exact ⟨rfl, rfl⟩
set_option maxRecDepth 20000 in
set_option maxHeartbeats 2000000 in
theorem ElementPlaces_any (n d e : Int) (w : World) :
    Calls Try.prog 13 #[.int .i64 n, .int .i64 d, .int .i64 e] w fun e' w' => ∃ v, e' = .returned (.tuple #[v, .int .i64 (epC n d e)]) ∧ OwnP w' w.heap.size v (epR n d e) ∧ Below w.heap.size w w' := by
  unfold epC epR
  cases hs : sizeB n
  · go_enter Try.func13, Try.ntmps13
    go_wp2_with (go_at_call 52; refine (isMatrixSize_any _ _).mono ?_; rintro e w' ⟨rfl, rfl⟩)
    go_returns
    exact ⟨.slice none 0 0, by simp, by simpa using OwnP.nil, by (repeat (first | (with_reducible assumption) | (with_reducible exact Below.refl _ _) | (with_reducible refine below_drewN' ?_ _) | (with_reducible refine Below.drew ?_) | ((with_reducible refine Below.alloc ?_ ?_ _); rotate_left; focus (first | (simp; done) | (simp; omega) | omega)) | ((with_reducible refine Below.setCell ?_ ?_ _); rotate_left; focus (first | (simp; done) | (simp; omega) | omega))))⟩
  cases hd : inR d 1 8
  · go_enter Try.func13, Try.ntmps13
    go_wp2_with first | (go_at_call 52; refine (isMatrixSize_any _ _).mono ?_; rintro e w' ⟨rfl, rfl⟩) | (go_at_call 53; refine (inRange_any _ _ _ _).mono ?_; rintro e w' ⟨rfl, rfl⟩)
    go_returns
    exact ⟨.slice none 0 0, by simp, by simpa using OwnP.nil, by (repeat (first | (with_reducible assumption) | (with_reducible exact Below.refl _ _) | (with_reducible refine below_drewN' ?_ _) | (with_reducible refine Below.drew ?_) | ((with_reducible refine Below.alloc ?_ ?_ _); rotate_left; focus (first | (simp; done) | (simp; omega) | omega)) | ((with_reducible refine Below.setCell ?_ ?_ _); rotate_left; focus (first | (simp; done) | (simp; omega) | omega))))⟩
  obtain ⟨N, rfl, h1, h2, h3⟩ := sizeB_true hs
  have hdr := inR_true hd
  obtain ⟨W, rfl⟩ := Int.eq_ofNat_of_zero_le (show 0 ≤ d by omega)
  have HF := Lib.hid (fun w => dataPlaces_any N w ⟨h1, h2, h3⟩)
  have hle := dataL_le h2
  simp only [Bool.and_self, cond_true, Int.toNat_natCast]
  obtain ⟨L, hL⟩ : ∃ L, (dataL N).length = L := ⟨_, rfl⟩
  rw [hL] at hle ⊢
  have HL := Lib.hid hL
  clear hL
  obtain ⟨q, hq⟩ : ∃ q, L / W = q := ⟨_, rfl⟩
  have hqi : (L : Int) / W = (q : Int) := by rw [← hq]; exact (Int.natCast_ediv L W).symm
  have hqw : IntKind.i64.wrap ((L : Int) / W) = (q : Int) := by rw [hqi]; exact i64_in (by have := Nat.div_le_self L W; omega)
  have hqL : q ≤ L := by rw [← hq]; exact Nat.div_le_self L W
  have hqW : q * W ≤ L := by rw [← hq]; exact Nat.div_mul_le_self L W
  have hW0 : ¬ W = 0 := by omega
  rw [hq]
  generalize dataL N = ps at HF HL ⊢
  obtain ⟨iP, hi⟩ := info_own' info_places
  have HP := Lib.hid (And.intro iP.bytes.le_refl hi)
  clear hi hq
  cases he : inR e 0 ((q : Int) - 1)
  · go_enter Try.func13, Try.ntmps13
    go_wp2_with first | (go_at_call 52; refine (isMatrixSize_any _ _).mono ?_; rintro e w' ⟨rfl, rfl⟩) | (go_at_call 53; refine (inRange_any _ _ _ _).mono ?_; rintro e w' ⟨rfl, rfl⟩)
    (go_at_call 54; with_reducible refine (HF.out _).mono ?_; rintro e1 w1 ⟨v1, rfl, ho1, hb1⟩; obtain ⟨hc1, hf1⟩ := bcell hb1; have hB1 : Below w.heap.size w w1 := (below_then (by first | (go_grown; done) | (repeat (first | (with_reducible assumption) | (with_reducible exact Below.refl _ _) | (with_reducible refine below_drewN' ?_ _) | (with_reducible refine Below.drew ?_) | ((with_reducible refine Below.alloc ?_ ?_ _); rotate_left; focus (first | (simp; done) | (simp; omega) | omega)) | ((with_reducible refine Below.setCell ?_ ?_ _); rotate_left; focus (first | (simp; done) | (simp; omega) | omega))))) (by first | omega | (simp; done) | (simp; omega)) hb1))
    obtain ⟨A1, c1, rfl⟩ := ho1.shape0
    rw [HL.out] at ho1 ⊢
    have HO1 := Lib.hid ho1
    clear ho1 hc1 hf1
    go_wp2_with (go_at_call 53; refine (inRange_any _ _ _ _).mono ?_; rintro e w' ⟨rfl, rfl⟩)
    go_returns
    exact ⟨.slice none 0 0, by simp, by simpa using OwnP.nil, by (repeat (first | (with_reducible assumption) | (with_reducible exact Below.refl _ _) | (with_reducible refine below_drewN' ?_ _) | (with_reducible refine Below.drew ?_) | ((with_reducible refine Below.alloc ?_ ?_ _); rotate_left; focus (first | (simp; done) | (simp; omega) | omega)) | ((with_reducible refine Below.setCell ?_ ?_ _); rotate_left; focus (first | (simp; done) | (simp; omega) | omega))))⟩
  · have her := inR_true he
    obtain ⟨E, rfl⟩ := Int.eq_ofNat_of_zero_le her.1
    simp only [cond_true, Int.toNat_natCast]
    have hEW : E * W + W ≤ L := by
      have : (E + 1) * W ≤ q * W := Nat.mul_le_mul_right _ (by omega)
      rw [Nat.succ_mul] at this; omega
    obtain ⟨lo, hlo⟩ : ∃ lo, E * W = lo := ⟨_, rfl⟩
    rw [hlo] at hEW ⊢
    have hlo1 : (E : Int) * W = (lo : Int) := by rw [← hlo]; simp
    have hlo2 : ((E : Int) + 1) * W = ((lo + W : Nat) : Int) := by rw [Int.add_mul, hlo1]; simp
    have hwl : IntKind.i64.wrap (lo : Int) = (lo : Int) := i64_in (by omega)
    have hR : ((ps.drop lo).take W).length = W := by rw [List.length_take, List.length_drop, HL.out]; omega
    have HRl := Lib.hid hR
    clear hR hlo
    go_enter Try.func13, Try.ntmps13
    go_wp2_with first | (go_at_call 52; refine (isMatrixSize_any _ _).mono ?_; rintro e w' ⟨rfl, rfl⟩) | (go_at_call 53; refine (inRange_any _ _ _ _).mono ?_; rintro e w' ⟨rfl, rfl⟩)
    (go_at_call 54; with_reducible refine (HF.out _).mono ?_; rintro e1 w1 ⟨v1, rfl, ho1, hb1⟩; obtain ⟨hc1, hf1⟩ := bcell hb1; have hB1 : Below w.heap.size w w1 := (below_then (by first | (go_grown; done) | (repeat (first | (with_reducible assumption) | (with_reducible exact Below.refl _ _) | (with_reducible refine below_drewN' ?_ _) | (with_reducible refine Below.drew ?_) | ((with_reducible refine Below.alloc ?_ ?_ _); rotate_left; focus (first | (simp; done) | (simp; omega) | omega)) | ((with_reducible refine Below.setCell ?_ ?_ _); rotate_left; focus (first | (simp; done) | (simp; omega) | omega))))) (by first | omega | (simp; done) | (simp; omega)) hb1))
    obtain ⟨A1, c1, rfl⟩ := ho1.shape0
    rw [HL.out] at ho1 ⊢
    have HO1 := Lib.hid ho1
    clear ho1 hc1 hf1
    obtain ⟨g, c', e', hB', hg', -⟩ := HO1.out.cells (by rw [HL.out]; omega)
    simp only [Value.slice.injEq] at e'
    obtain ⟨rfl, -, -⟩ := e'
    have hcap := HO1.out.cap HL.out
    have hnews := Lib.hid (OwnP.part (lo := lo) (W := W) HO1.out)
    go_wp2_with first | (go_at_call 53; refine (inRange_any _ _ _ _).mono ?_; rintro e w' ⟨rfl, rfl⟩) | (at_builtin; refine wpList_append_own_at _ rfl _ _ 26 rfl (w.heap.size) 32 iP (.agg #[.int .i64 0, .int .i64 0]) 2 16 Try.underlying26 HP.out.2.1 HP.out.2.2.1 HP.out.2.2.2.1 HP.out.2.2.2.2 rfl (by decide) (.slice none 0 0) 0 [] rfl (World.ownsRow_nil _ _ _ _) ⟨g, lo * 2, none⟩ (lo + W - lo) _ (pc ((ps.drop lo).take W)) rfl (by rw [pc_len, HRl.out, Nat.add_sub_cancel_left]) hnews.out (pc_ok _) (own_maxP (by decide) (by omega)) (own_bytesP (by decide) (by omega)) (by have := hb1.size; omega) ?_; intro va wa howna hga _ hata)
    have hoa := Lib.hid (show OwnP wa w.heap.size va ((ps.drop lo).take W) by
      have h := howna
      simp only [List.nil_append, Nat.zero_add, Nat.add_sub_cancel_left] at h
      unfold OwnP; rw [HRl.out]; exact h)
    have hBa := Lib.hid (hB1.grown hga (by have := hb1.size; omega) (fun k hk => by cases hk))
    clear howna hga hata
    go_wp2_with fail
    go_returns
    exact ⟨va, by simp, hoa.out, hBa.out⟩
set_option maxRecDepth 20000 in
set_option maxHeartbeats 2000000 in
theorem sElementPlaces_any (n d e : Int) (w : World) :
    Calls Try.prog 14 #[.int .i64 n, .int .i64 d, .int .i64 e] w fun e' w' => ∃ v, e' = .returned (.tuple #[v, .int .i64 (epC n d e)]) ∧ OwnP w' w.heap.size v (epR n d e) ∧ Below w.heap.size w w' := by
  unfold epC epR
  cases hs : sizeB n
  · go_enter Try.func14, Try.ntmps14
    go_wp2_with (go_at_call 55; refine (l14Size_any _ _).mono ?_; rintro e w' ⟨rfl, rfl⟩)
    go_returns
    exact ⟨.slice none 0 0, by simp, by simpa using OwnP.nil, by (repeat (first | (with_reducible assumption) | (with_reducible exact Below.refl _ _) | (with_reducible refine below_drewN' ?_ _) | (with_reducible refine Below.drew ?_) | ((with_reducible refine Below.alloc ?_ ?_ _); rotate_left; focus (first | (simp; done) | (simp; omega) | omega)) | ((with_reducible refine Below.setCell ?_ ?_ _); rotate_left; focus (first | (simp; done) | (simp; omega) | omega))))⟩
  cases hd : inR d 1 8
  · go_enter Try.func14, Try.ntmps14
    go_wp2_with first | (go_at_call 55; refine (l14Size_any _ _).mono ?_; rintro e w' ⟨rfl, rfl⟩) | (go_at_call 56; refine (l15Width_any _ _).mono ?_; rintro e w' ⟨rfl, rfl⟩)
    go_returns
    exact ⟨.slice none 0 0, by simp, by simpa using OwnP.nil, by (repeat (first | (with_reducible assumption) | (with_reducible exact Below.refl _ _) | (with_reducible refine below_drewN' ?_ _) | (with_reducible refine Below.drew ?_) | ((with_reducible refine Below.alloc ?_ ?_ _); rotate_left; focus (first | (simp; done) | (simp; omega) | omega)) | ((with_reducible refine Below.setCell ?_ ?_ _); rotate_left; focus (first | (simp; done) | (simp; omega) | omega))))⟩
  obtain ⟨N, rfl, h1, h2, h3⟩ := sizeB_true hs
  have hdr := inR_true hd
  obtain ⟨W, rfl⟩ := Int.eq_ofNat_of_zero_le (show 0 ≤ d by omega)
  have HF := Lib.hid (fun w => l15Places_any N w ⟨h1, h2, h3⟩)
  have HC := Lib.hid (fun w => l14Count_any N w ⟨h1, h2, h3⟩)
  have hle := dataL_le h2
  simp only [Bool.and_self, cond_true, Int.toNat_natCast]
  obtain ⟨L, hL⟩ : ∃ L, (dataL N).length = L := ⟨_, rfl⟩
  rw [hL] at hle HC ⊢
  have HL := Lib.hid hL
  clear hL
  obtain ⟨q, hq⟩ : ∃ q, L / W = q := ⟨_, rfl⟩
  have hqi : (L : Int) / W = (q : Int) := by rw [← hq]; exact (Int.natCast_ediv L W).symm
  have hqw : IntKind.i64.wrap ((L : Int) / W) = (q : Int) := by rw [hqi]; exact i64_in (by have := Nat.div_le_self L W; omega)
  have hqL : q ≤ L := by rw [← hq]; exact Nat.div_le_self L W
  have hqW : q * W ≤ L := by rw [← hq]; exact Nat.div_mul_le_self L W
  have hW0 : ¬ W = 0 := by omega
  rw [hq]
  generalize dataL N = ps at HF HL ⊢
  obtain ⟨iP, hi⟩ := info_own' info_places
  have HP := Lib.hid (And.intro iP.bytes.le_refl hi)
  clear hi hq
  cases he : inR e 0 ((q : Int) - 1)
  · go_enter Try.func14, Try.ntmps14
    go_wp2_with first | (go_at_call 55; refine (l14Size_any _ _).mono ?_; rintro e w' ⟨rfl, rfl⟩) | (go_at_call 56; refine (l15Width_any _ _).mono ?_; rintro e w' ⟨rfl, rfl⟩)
    (go_at_call 58; with_reducible refine (HC.out _).mono ?_; rintro e1 w1 ⟨rfl, hb1⟩; obtain ⟨hc1, hf1⟩ := bcell hb1; have hB1 : Below w.heap.size w w1 := (below_then (by first | (go_grown; done) | (repeat (first | (with_reducible assumption) | (with_reducible exact Below.refl _ _) | (with_reducible refine below_drewN' ?_ _) | (with_reducible refine Below.drew ?_) | ((with_reducible refine Below.alloc ?_ ?_ _); rotate_left; focus (first | (simp; done) | (simp; omega) | omega)) | ((with_reducible refine Below.setCell ?_ ?_ _); rotate_left; focus (first | (simp; done) | (simp; omega) | omega))))) (by first | omega | (simp; done) | (simp; omega)) hb1))
    go_wp2_with (go_at_call 57; refine (l01In_any _ _ _ _).mono ?_; rintro e w' ⟨rfl, rfl⟩)
    go_returns
    exact ⟨.slice none 0 0, by simp, by simpa using OwnP.nil, by (repeat (first | (with_reducible assumption) | (with_reducible exact Below.refl _ _) | (with_reducible refine below_drewN' ?_ _) | (with_reducible refine Below.drew ?_) | ((with_reducible refine Below.alloc ?_ ?_ _); rotate_left; focus (first | (simp; done) | (simp; omega) | omega)) | ((with_reducible refine Below.setCell ?_ ?_ _); rotate_left; focus (first | (simp; done) | (simp; omega) | omega))))⟩
  · have her := inR_true he
    obtain ⟨E, rfl⟩ := Int.eq_ofNat_of_zero_le her.1
    simp only [cond_true, Int.toNat_natCast]
    have hEW : E * W + W ≤ L := by
      have : (E + 1) * W ≤ q * W := Nat.mul_le_mul_right _ (by omega)
      rw [Nat.succ_mul] at this; omega
    obtain ⟨lo, hlo⟩ : ∃ lo, E * W = lo := ⟨_, rfl⟩
    rw [hlo] at hEW ⊢
    have hlo1 : (E : Int) * W = (lo : Int) := by rw [← hlo]; simp
    have hlo2 : ((E : Int) + 1) * W = ((lo + W : Nat) : Int) := by rw [Int.add_mul, hlo1]; simp
    have hwl : IntKind.i64.wrap (lo : Int) = (lo : Int) := i64_in (by omega)
    have hR : ((ps.drop lo).take W).length = W := by rw [List.length_take, List.length_drop, HL.out]; omega
    have HRl := Lib.hid hR
    clear hR hlo
    go_enter Try.func14, Try.ntmps14
    go_wp2_with first | (go_at_call 55; refine (l14Size_any _ _).mono ?_; rintro e w' ⟨rfl, rfl⟩) | (go_at_call 56; refine (l15Width_any _ _).mono ?_; rintro e w' ⟨rfl, rfl⟩)
    (go_at_call 58; with_reducible refine (HC.out _).mono ?_; rintro e1 w1 ⟨rfl, hb1⟩; obtain ⟨hc1, hf1⟩ := bcell hb1; have hB1 : Below w.heap.size w w1 := (below_then (by first | (go_grown; done) | (repeat (first | (with_reducible assumption) | (with_reducible exact Below.refl _ _) | (with_reducible refine below_drewN' ?_ _) | (with_reducible refine Below.drew ?_) | ((with_reducible refine Below.alloc ?_ ?_ _); rotate_left; focus (first | (simp; done) | (simp; omega) | omega)) | ((with_reducible refine Below.setCell ?_ ?_ _); rotate_left; focus (first | (simp; done) | (simp; omega) | omega))))) (by first | omega | (simp; done) | (simp; omega)) hb1))
    have hs1 := hb1.size
    go_wp2_with (go_at_call 57; refine (l01In_any _ _ _ _).mono ?_; rintro e w' ⟨rfl, rfl⟩)
    (go_at_call 59; with_reducible refine (HF.out _).mono ?_; rintro e2 w2 ⟨v1, rfl, ho1, hb2⟩; obtain ⟨hc2, hf2⟩ := bcell hb2; have hB2 : Below w.heap.size w w2 := (below_then (by first | (go_grown; done) | (repeat (first | (with_reducible assumption) | (with_reducible exact Below.refl _ _) | (with_reducible refine below_drewN' ?_ _) | (with_reducible refine Below.drew ?_) | ((with_reducible refine Below.alloc ?_ ?_ _); rotate_left; focus (first | (simp; done) | (simp; omega) | omega)) | ((with_reducible refine Below.setCell ?_ ?_ _); rotate_left; focus (first | (simp; done) | (simp; omega) | omega))))) (by first | omega | (simp; done) | (simp; omega)) hb2))
    obtain ⟨A1, c1, rfl⟩ := ho1.shape0
    rw [HL.out] at ho1 ⊢
    have HO1 := Lib.hid ho1
    clear ho1 hc1 hf1 hc2 hf2
    obtain ⟨g, c', e', hB', hg', -⟩ := HO1.out.cells (by rw [HL.out]; omega)
    simp only [Value.slice.injEq] at e'
    obtain ⟨rfl, -, -⟩ := e'
    have hcap := HO1.out.cap HL.out
    have hnews := Lib.hid (OwnP.part (lo := lo) (W := W) (OwnP.alloc HO1.out (.cells #[] 32)))
    have hE := Lib.hid (OwnP.empty (B := w.heap.size) w2 (by have := hb2.size; omega))
    go_wp2_with (at_builtin; refine wpList_append_own_at _ rfl _ _ 26 rfl (w.heap.size) 32 iP (.agg #[.int .i64 0, .int .i64 0]) 2 16 Try.underlying26 HP.out.2.1 HP.out.2.2.1 HP.out.2.2.2.1 HP.out.2.2.2.2 rfl (by decide) (.slice (some ⟨w2.heap.size, 0, none⟩) 0 0) 0 [] rfl hE.out ⟨g, lo * 2, none⟩ (lo + W - lo) _ (pc ((ps.drop lo).take W)) rfl (by rw [pc_len, HRl.out, Nat.add_sub_cancel_left]) hnews.out (pc_ok _) (own_maxP (by decide) (by omega)) (own_bytesP (by decide) (by omega)) (by have := hb2.size; simp; omega) ?_; intro va wa howna hga _ hata)
    have hoa := Lib.hid (show OwnP wa w.heap.size va ((ps.drop lo).take W) by
      have h := howna
      simp only [List.nil_append, Nat.zero_add, Nat.add_sub_cancel_left] at h
      unfold OwnP; rw [HRl.out]; exact h)
    have hBa := Lib.hid ((hB2.alloc (by have := hb2.size; omega) (.cells #[] 32)).grown hga (by have := hb2.size; simp; omega) (fun k hk => by have : w2.heap.size = k := Option.some.inj hk; have := hb2.size; omega))
    clear howna hga hata
    go_wp2_with fail
    go_returns
    exact ⟨va, by simp, hoa.out, hBa.out⟩
end Go.Proofs.Yteghpageamehkaa
