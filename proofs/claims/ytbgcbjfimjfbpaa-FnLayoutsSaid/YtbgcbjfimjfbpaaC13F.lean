/-
  Contracts of chapter 13: which families are valid.
-/
import Derived.Test.YtbgcbjfimjfbpaaC13
import Derived.Test.YtbgcbjfimjfbpaaC14
namespace Go.Proofs.Ytbgcbjfimjfbpaa
set_option linter.unusedSimpArgs false
open Go.RowKit

/-- The name and the two lists of a family. -/
structure FamOk (w : World) (B : Nat) (s : ByteArray) (A1 : Option Addr) (n1 : Nat) (sz : List Int) (A2 : Option Addr) (n2 : Nat) (lv : List Int) : Prop where
  hs : s.size ≤ 1000000000000
  h1 : RI w B A1 n1 sz
  h2 : RI w B A2 n2 lv
  l1 : n1 ≤ 1000000000000
  l2 : n2 ≤ 1000000000000
section
variable {w w' : World} {B B' : Nat} {s : ByteArray} {A1 A2 : Option Addr} {n1 n2 : Nat} {sz lv : List Int}
theorem FamOk.below (h : FamOk w B s A1 n1 sz A2 n2 lv) (hb : Below B w w') : FamOk w' B s A1 n1 sz A2 n2 lv := ⟨h.hs, h.h1.below hb, h.h2.below hb, h.l1, h.l2⟩
theorem FamOk.alloc (h : FamOk w B s A1 n1 sz A2 n2 lv) (hB : B ≤ w.heap.size) (o : Obj) : FamOk (w.alloc o) B s A1 n1 sz A2 n2 lv := ⟨h.hs, h.h1.alloc hB o, h.h2.alloc hB o, h.l1, h.l2⟩
theorem FamOk.more (h : FamOk w B s A1 n1 sz A2 n2 lv) (hB : B ≤ B') : FamOk w B' s A1 n1 sz A2 n2 lv := ⟨h.hs, h.h1.more hB, h.h2.more hB, h.l1, h.l2⟩
end
def mod4B (x : Int) : Bool := x.tmod 4 == 1
def fld32 (p k g : Int) : Bool := (p == 2) && ((k == 5) && (g == 37))
/-- Is a family valid? -/
def famB (s : ByteArray) (kind p k g col : Int) (n1 : Nat) (sz : List Int) (n2 : Nat) (lv : List Int) : Bool :=
  nameB s && (inR (n1 : Int) 1 8 && (inR (n2 : Int) 1 4 && (risB 1 80 lv &&
    (if kind = 1 then (p == 2) && (fieldB p k g && ((col == 0) && (risB 17 41 sz && sz.all mod4B))) else (kind == 2) && (fld32 p k g && (inR col 1 8 && risB 3 24 sz))))))
theorem blk8 {w : World} {b t : Nat} {x0 x1 x2 x3 x4 x5 x6 x7 : Value} (h : w.heap[b]? = some (.cells #[x0, x1, x2, x3, x4, x5, x6, x7] t (0, 0))) :
    w.cell? ⟨b, 0, none⟩ = some x0 ∧ w.cell? ⟨b, 1, none⟩ = some x1 ∧ w.cell? ⟨b, 2, none⟩ = some x2 ∧ w.cell? ⟨b, 3, none⟩ = some x3 ∧ w.cell? ⟨b, 4, none⟩ = some x4 ∧ w.cell? ⟨b, 5, none⟩ = some x5 ∧ w.cell? ⟨b, 6, none⟩ = some x6 ∧ w.cell? ⟨b, 7, none⟩ = some x7 ∧ ∀ k, w.frozen? ⟨b, k, none⟩ = false := by
  refine ⟨?_, ?_, ?_, ?_, ?_, ?_, ?_, ?_, fun k => ?_⟩ <;> simp [World.cell?, World.frozen?, h]
theorem sizes_of {sz : List Int} (h : risB 17 41 sz = true) {i : Nat} (hi : i < sz.length) : sizeB (nth sz i) = mod4B (nth sz i) := by
  have h1 := risB_in h hi
  unfold sizeB mod4B
  rw [inR_mk h1.1 h1.2]; rfl
theorem mods_bad {sz : List Int} (h : risB 17 41 sz = true) {i : Nat} (hi : i < sz.length) (hb : sizeB (nth sz i) = false) : sz.all mod4B = false := by
  cases e : sz.all mod4B with
  | false => rfl
  | true =>
    rw [sizes_of h hi, List.all_eq_true.1 e _ (nth_mem hi)] at hb; cases hb
theorem mods_ok {sz : List Int} (h : ∀ i, i < sz.length → mod4B (nth sz i) = true) : sz.all mod4B = true := by
  rw [List.all_eq_true]
  intro x hx
  obtain ⟨i, hi, rfl⟩ := List.getElem_of_mem hx
  have := h i hi
  rwa [nth_lt hi] at this
theorem sizeB_mod {n : Int} (h : sizeB n = true) : mod4B n = true := by
  unfold sizeB at h
  simp only [Bool.and_eq_true] at h
  exact h.2
theorem fam_1 {s : ByteArray} {p k g col : Int} {n1 n2 : Nat} {sz lv : List Int} (h1 : nameB s = true) (h2 : inR (n1 : Int) 1 8 = true) (h3 : inR (n2 : Int) 1 4 = true) (h4 : risB 1 80 lv = true) :
    famB s 1 p k g col n1 sz n2 lv = ((p == 2) && (fieldB p k g && ((col == 0) && (risB 17 41 sz && sz.all mod4B)))) := by
  simp [famB, h1, h2, h3, h4]
theorem fam_2 {s : ByteArray} {p k g col : Int} {n1 n2 : Nat} {sz lv : List Int} (h1 : nameB s = true) (h2 : inR (n1 : Int) 1 8 = true) (h3 : inR (n2 : Int) 1 4 = true) (h4 : risB 1 80 lv = true) :
    famB s 2 p k g col n1 sz n2 lv = (fld32 p k g && (inR col 1 8 && risB 3 24 sz)) := by
  simp [famB, h1, h2, h3, h4]
theorem fam_no {s : ByteArray} {kind p k g col : Int} {n1 n2 : Nat} {sz lv : List Int} (h : nameB s = false ∨ inR (n1 : Int) 1 8 = false ∨ inR (n2 : Int) 1 4 = false ∨ risB 1 80 lv = false ∨ (kind ≠ 1 ∧ kind ≠ 2)) :
    famB s kind p k g col n1 sz n2 lv = false := by
  rcases h with h | h | h | h | ⟨h, h'⟩
  · simp [famB, h]
  · simp [famB, h]
  · simp [famB, h]
  · simp [famB, h]
  · simp [famB, h, h']
theorem fam_bad {s : ByteArray} {p k g col : Int} {n1 n2 : Nat} {sz lv : List Int} {i : Nat} (hi : i < sz.length) (hb : sizeB (nth sz i) = false) : famB s 1 p k g col n1 sz n2 lv = false := by
  cases h : risB 17 41 sz with
  | false => simp [famB, h]
  | true => simp [famB, mods_bad h hi hb]
set_option maxHeartbeats 4000000 in
theorem IsFamily_any (s : ByteArray) (kind p k g col : Int) (A1 A2 : Option Addr) (n1 c1 n2 c2 : Nat) (sz lv : List Int) (w : World) (B : Nat) (hF : FamOk w B s A1 n1 sz A2 n2 lv) (hB : B ≤ w.heap.size) :
    Calls Try.prog 19 #[.agg #[.string s, .int .i64 kind, .int .i64 p, .int .i64 k, .int .i64 g, .slice A1 n1 c1, .int .i64 col, .slice A2 n2 c2]] w fun e w' => e = .returned (.bool (famB s kind p k g col n1 sz n2 lv)) ∧ Below w.heap.size w w' := by
  have HL := Lib.hid (fun (w' : World) (hb : Below w.heap.size w w') => rises_any 1 80 A2 n2 c2 lv w' w.heap.size ((hF.h2.more hB).below hb) (by have := hF.l2; omega))
  have HZ1 := Lib.hid (fun (w' : World) (hb : Below w.heap.size w w') => rises_any 17 41 A1 n1 c1 sz w' w.heap.size ((hF.h1.more hB).below hb) (by have := hF.l1; omega))
  have HZ2 := Lib.hid (fun (w' : World) (hb : Below w.heap.size w w') => rises_any 3 24 A1 n1 c1 sz w' w.heap.size ((hF.h1.more hB).below hb) (by have := hF.l1; omega))
  have HNM := Lib.hid (fun w => isName_any s w hF.hs)
  have HR1 := Lib.hid (hF.h1.more hB)
  have hl1 := hF.l1
  have hl2 := hF.l2
  clear hF
  cases h1 : nameB s
  · have HX := Lib.hid (fam_no (kind := kind) (p := p) (k := k) (g := g) (col := col) (n1 := n1) (n2 := n2) (sz := sz) (lv := lv) (.inl h1))
    go_enter Try.func19, Try.ntmps19
    go_wp2_with (go_at_call 59; refine (HNM.out _).mono ?_; rintro e w' ⟨rfl, rfl⟩)
    go_ret
    exact ⟨ret_bool HX.out.symm, by (repeat (first | (with_reducible assumption) | (with_reducible exact Below.refl _ _) | (with_reducible refine below_drewN' ?_ _) | (with_reducible refine Below.drew ?_) | ((with_reducible refine Below.alloc ?_ ?_ _); rotate_left; focus (first | (simp; done) | (simp; omega) | omega)) | ((with_reducible refine Below.setCell ?_ ?_ _); rotate_left; focus (first | (simp; done) | (simp; omega) | omega))))⟩
  cases h2 : inR (n1 : Int) 1 8
  · have HX := Lib.hid (fam_no (s := s) (kind := kind) (p := p) (k := k) (g := g) (col := col) (n2 := n2) (sz := sz) (lv := lv) (.inr (.inl h2)))
    go_enter Try.func19, Try.ntmps19
    go_wp2_with first | (go_at_call 59; refine (HNM.out _).mono ?_; rintro e w' ⟨rfl, rfl⟩) | (go_at_call 60; refine (inRange_any _ _ _ _).mono ?_; rintro e w' ⟨rfl, rfl⟩)
    go_ret
    exact ⟨ret_bool HX.out.symm, by (repeat (first | (with_reducible assumption) | (with_reducible exact Below.refl _ _) | (with_reducible refine below_drewN' ?_ _) | (with_reducible refine Below.drew ?_) | ((with_reducible refine Below.alloc ?_ ?_ _); rotate_left; focus (first | (simp; done) | (simp; omega) | omega)) | ((with_reducible refine Below.setCell ?_ ?_ _); rotate_left; focus (first | (simp; done) | (simp; omega) | omega))))⟩
  cases h3 : inR (n2 : Int) 1 4
  · have HX := Lib.hid (fam_no (s := s) (kind := kind) (p := p) (k := k) (g := g) (col := col) (n1 := n1) (sz := sz) (lv := lv) (.inr (.inr (.inl h3))))
    go_enter Try.func19, Try.ntmps19
    go_wp2_with first | (go_at_call 59; refine (HNM.out _).mono ?_; rintro e w' ⟨rfl, rfl⟩) | (go_at_call 60; refine (inRange_any _ _ _ _).mono ?_; rintro e w' ⟨rfl, rfl⟩)
    go_ret
    exact ⟨ret_bool HX.out.symm, by (repeat (first | (with_reducible assumption) | (with_reducible exact Below.refl _ _) | (with_reducible refine below_drewN' ?_ _) | (with_reducible refine Below.drew ?_) | ((with_reducible refine Below.alloc ?_ ?_ _); rotate_left; focus (first | (simp; done) | (simp; omega) | omega)) | ((with_reducible refine Below.setCell ?_ ?_ _); rotate_left; focus (first | (simp; done) | (simp; omega) | omega))))⟩
  cases h4 : risB 1 80 lv
  · have HX := Lib.hid (fam_no (s := s) (kind := kind) (p := p) (k := k) (g := g) (col := col) (n1 := n1) (n2 := n2) (sz := sz) (.inr (.inr (.inr (.inl h4)))))
    go_enter Try.func19, Try.ntmps19
    go_wp2_with first | (go_at_call 59; refine (HNM.out _).mono ?_; rintro e w' ⟨rfl, rfl⟩) | (go_at_call 60; refine (inRange_any _ _ _ _).mono ?_; rintro e w' ⟨rfl, rfl⟩)
    (go_at_call 61; refine (HL.out _ (by (repeat (first | (with_reducible assumption) | (with_reducible exact Below.refl _ _) | (with_reducible refine below_drewN' ?_ _) | (with_reducible refine Below.drew ?_) | ((with_reducible refine Below.alloc ?_ ?_ _); rotate_left; focus (first | (simp; done) | (simp; omega) | omega)) | ((with_reducible refine Below.setCell ?_ ?_ _); rotate_left; focus (first | (simp; done) | (simp; omega) | omega)))))).mono ?_; rintro e w' ⟨rfl, rfl⟩)
    go_wp2_with fail
    go_ret
    exact ⟨ret_bool HX.out.symm, by (repeat (first | (with_reducible assumption) | (with_reducible exact Below.refl _ _) | (with_reducible refine below_drewN' ?_ _) | (with_reducible refine Below.drew ?_) | ((with_reducible refine Below.alloc ?_ ?_ _); rotate_left; focus (first | (simp; done) | (simp; omega) | omega)) | ((with_reducible refine Below.setCell ?_ ?_ _); rotate_left; focus (first | (simp; done) | (simp; omega) | omega))))⟩
  by_cases hk1 : kind = 1
  · subst hk1
    have HX := Lib.hid (fam_1 (p := p) (k := k) (g := g) (col := col) (sz := sz) h1 h2 h3 h4)
    have HBAD := Lib.hid (fun i hi hb => fam_bad (s := s) (p := p) (k := k) (g := g) (col := col) (n1 := n1) (n2 := n2) (sz := sz) (lv := lv) (i := i) hi hb)
    have HFI := Lib.hid (fun w => IsField_any p k g w)
    go_enter Try.func19, Try.ntmps19
    go_wp2_with first | (go_at_call 59; refine (HNM.out _).mono ?_; rintro e w' ⟨rfl, rfl⟩) | (go_at_call 60; refine (inRange_any _ _ _ _).mono ?_; rintro e w' ⟨rfl, rfl⟩)
    (go_at_call 61; refine (HL.out _ (by (repeat (first | (with_reducible assumption) | (with_reducible exact Below.refl _ _) | (with_reducible refine below_drewN' ?_ _) | (with_reducible refine Below.drew ?_) | ((with_reducible refine Below.alloc ?_ ?_ _); rotate_left; focus (first | (simp; done) | (simp; omega) | omega)) | ((with_reducible refine Below.setCell ?_ ?_ _); rotate_left; focus (first | (simp; done) | (simp; omega) | omega)))))).mono ?_; rintro e w' ⟨rfl, rfl⟩)
    go_wp2_with fail
    clear h1 h2 h3 h4 HL HZ2 HNM
    have HRA := Lib.hid (HR1.out.alloc (Nat.le_refl _) (.cells #[.string s, .int .i64 1, .int .i64 p, .int .i64 k, .int .i64 g, .slice A1 n1 c1, .int .i64 col, .slice A2 n2 c2] 34))
    go_loop [38] (fun i => ∃ n : Nat, n ≤ n1 ∧ i = .int .i64 n ∧ Hid (∀ j, j < n → sizeB (nth sz j) = true)) (fun i => n1 - (intOf i).toNat)
    case atStart => exact ⟨0, Nat.zero_le _, rfl, Lib.hid (fun j h => by omega)⟩
    case round =>
      obtain ⟨n, hn, rfl, hup⟩ := hrel
      by_cases hlt : n < n1
      · obtain ⟨b, o, rfl, hb, hc⟩ := HRA.out.cells (by omega)
        have hck := hc n hlt
        clear hc
        cases he : sizeB (nth sz n)
        · have HE := Lib.hid (HBAD.out n (by have := HR1.out.len; omega) he)
          go_wp2_with (go_at_call 62; refine (isMatrixSize_any _ _).mono ?_; rintro e w' ⟨rfl, rfl⟩)
          go_ret
          exact ⟨ret_bool HE.out.symm, by (repeat (first | (with_reducible assumption) | (with_reducible exact Below.refl _ _) | (with_reducible refine below_drewN' ?_ _) | (with_reducible refine Below.drew ?_) | ((with_reducible refine Below.alloc ?_ ?_ _); rotate_left; focus (first | (simp; done) | (simp; omega) | omega)) | ((with_reducible refine Below.setCell ?_ ?_ _); rotate_left; focus (first | (simp; done) | (simp; omega) | omega))))⟩
        · have HU : Hid (∀ j, j < n + 1 → sizeB (nth sz j) = true) := Lib.hid (fun j h => by
            rcases Nat.lt_or_ge j n with hl | hl
            · exact hup.out j hl
            · obtain rfl : j = n := by omega
              exact he)
          go_wp2_with (go_at_call 62; refine (isMatrixSize_any _ _).mono ?_; rintro e w' ⟨rfl, rfl⟩)
          go_round
          case rel => exact ⟨n + 1, by omega, by go_num, HU⟩
          case measure => simp [intOf]; omega
      · have HM : Hid (sz.all mod4B = true) := Lib.hid (mods_ok fun i hi => sizeB_mod (hup.out i (by have := HR1.out.len; omega)))
        generalize sz.all mod4B = M at HM HX
        have HX2 : Hid (famB s 1 p k g col n1 sz n2 lv = ((p == 2) && (fieldB p k g && ((col == 0) && risB 17 41 sz)))) := Lib.hid (by rw [HX.out, HM.out, Bool.and_true])
        clear HX HM
        by_cases hp : p = 2
        · subst hp
          cases hf : fieldB 2 k g
          · rw [hf] at HFI
            go_wp2_with (go_at_call 63; with_reducible refine (HFI.out _).mono ?_; rintro e1 w1 ⟨rfl, hb1⟩; obtain ⟨hc1, hf1⟩ := bcell hb1; have hB1 : Below w.heap.size w w1 := (below_then (by first | (go_grown; done) | (repeat (first | (with_reducible assumption) | (with_reducible exact Below.refl _ _) | (with_reducible refine below_drewN' ?_ _) | (with_reducible refine Below.drew ?_) | ((with_reducible refine Below.alloc ?_ ?_ _); rotate_left; focus (first | (simp; done) | (simp; omega) | omega)) | ((with_reducible refine Below.setCell ?_ ?_ _); rotate_left; focus (first | (simp; done) | (simp; omega) | omega))))) (by first | omega | (simp; done) | (simp; omega)) hb1); have hz1a : w.heap.size < w1.heap.size := (by have := hb1.size; first | omega | (simp at this; omega)))
            go_ret
            exact ⟨ret_bool (by rw [HX2.out, hf]; rfl), by (repeat (first | (with_reducible assumption) | (with_reducible exact Below.refl _ _) | (with_reducible refine below_drewN' ?_ _) | (with_reducible refine Below.drew ?_) | ((with_reducible refine Below.alloc ?_ ?_ _); rotate_left; focus (first | (simp; done) | (simp; omega) | omega)) | ((with_reducible refine Below.setCell ?_ ?_ _); rotate_left; focus (first | (simp; done) | (simp; omega) | omega))))⟩
          · rw [hf] at HFI
            by_cases hcol : col = 0
            · subst hcol
              go_wp2_with (go_at_call 63; with_reducible refine (HFI.out _).mono ?_; rintro e1 w1 ⟨rfl, hb1⟩; obtain ⟨hc1, hf1⟩ := bcell hb1; have hB1 : Below w.heap.size w w1 := (below_then (by first | (go_grown; done) | (repeat (first | (with_reducible assumption) | (with_reducible exact Below.refl _ _) | (with_reducible refine below_drewN' ?_ _) | (with_reducible refine Below.drew ?_) | ((with_reducible refine Below.alloc ?_ ?_ _); rotate_left; focus (first | (simp; done) | (simp; omega) | omega)) | ((with_reducible refine Below.setCell ?_ ?_ _); rotate_left; focus (first | (simp; done) | (simp; omega) | omega))))) (by first | omega | (simp; done) | (simp; omega)) hb1); have hz1a : w.heap.size < w1.heap.size := (by have := hb1.size; first | omega | (simp at this; omega)))
              (go_at_call 61; refine (HZ1.out _ (by (repeat (first | (with_reducible assumption) | (with_reducible exact Below.refl _ _) | (with_reducible refine below_drewN' ?_ _) | (with_reducible refine Below.drew ?_) | ((with_reducible refine Below.alloc ?_ ?_ _); rotate_left; focus (first | (simp; done) | (simp; omega) | omega)) | ((with_reducible refine Below.setCell ?_ ?_ _); rotate_left; focus (first | (simp; done) | (simp; omega) | omega)))))).mono ?_; rintro e w' ⟨rfl, rfl⟩)
              go_wp2_with fail
              go_ret
              exact ⟨ret_bool (by rw [HX2.out, hf]; rfl), by (repeat (first | (with_reducible assumption) | (with_reducible exact Below.refl _ _) | (with_reducible refine below_drewN' ?_ _) | (with_reducible refine Below.drew ?_) | ((with_reducible refine Below.alloc ?_ ?_ _); rotate_left; focus (first | (simp; done) | (simp; omega) | omega)) | ((with_reducible refine Below.setCell ?_ ?_ _); rotate_left; focus (first | (simp; done) | (simp; omega) | omega))))⟩
            · have hc0 : (col == 0) = false := by simpa using hcol
              go_wp2_with (go_at_call 63; with_reducible refine (HFI.out _).mono ?_; rintro e1 w1 ⟨rfl, hb1⟩; obtain ⟨hc1, hf1⟩ := bcell hb1; have hB1 : Below w.heap.size w w1 := (below_then (by first | (go_grown; done) | (repeat (first | (with_reducible assumption) | (with_reducible exact Below.refl _ _) | (with_reducible refine below_drewN' ?_ _) | (with_reducible refine Below.drew ?_) | ((with_reducible refine Below.alloc ?_ ?_ _); rotate_left; focus (first | (simp; done) | (simp; omega) | omega)) | ((with_reducible refine Below.setCell ?_ ?_ _); rotate_left; focus (first | (simp; done) | (simp; omega) | omega))))) (by first | omega | (simp; done) | (simp; omega)) hb1); have hz1a : w.heap.size < w1.heap.size := (by have := hb1.size; first | omega | (simp at this; omega)))
              go_ret
              exact ⟨ret_bool (by rw [HX2.out, hf, hc0]; rfl), by (repeat (first | (with_reducible assumption) | (with_reducible exact Below.refl _ _) | (with_reducible refine below_drewN' ?_ _) | (with_reducible refine Below.drew ?_) | ((with_reducible refine Below.alloc ?_ ?_ _); rotate_left; focus (first | (simp; done) | (simp; omega) | omega)) | ((with_reducible refine Below.setCell ?_ ?_ _); rotate_left; focus (first | (simp; done) | (simp; omega) | omega))))⟩
        · have hp2 : (p == 2) = false := by simpa using hp
          go_wp2_with fail
          go_ret
          exact ⟨ret_bool (by rw [HX2.out, hp2]; rfl), by (repeat (first | (with_reducible assumption) | (with_reducible exact Below.refl _ _) | (with_reducible refine below_drewN' ?_ _) | (with_reducible refine Below.drew ?_) | ((with_reducible refine Below.alloc ?_ ?_ _); rotate_left; focus (first | (simp; done) | (simp; omega) | omega)) | ((with_reducible refine Below.setCell ?_ ?_ _); rotate_left; focus (first | (simp; done) | (simp; omega) | omega))))⟩
  have hk1' : (kind == 1) = false := by simpa using hk1
  by_cases hk2 : kind = 2
  · subst hk2
    have HX := Lib.hid (fam_2 (p := p) (k := k) (g := g) (col := col) (sz := sz) h1 h2 h3 h4)
    have HF32 := Lib.hid (fun w => FieldOf_32 w)
    by_cases hf : p = 2 ∧ k = 5 ∧ g = 37
    · obtain ⟨rfl, rfl, rfl⟩ := hf
      cases h5 : inR col 1 8
      · go_enter Try.func19, Try.ntmps19
        go_wp2_with first | (go_at_call 59; refine (HNM.out _).mono ?_; rintro e w' ⟨rfl, rfl⟩) | (go_at_call 60; refine (inRange_any _ _ _ _).mono ?_; rintro e w' ⟨rfl, rfl⟩)
        (go_at_call 61; refine (HL.out _ (by go_grown)).mono ?_; rintro e w' ⟨rfl, rfl⟩)
        go_wp2_with first | (go_at_call 60; refine (inRange_any _ _ _ _).mono ?_; rintro e w' ⟨rfl, rfl⟩) | (go_at_call 64; with_reducible refine (HF32.out _).mono ?_; rintro e1 w1 ⟨rfl, hb1⟩; obtain ⟨hc1, hf1⟩ := bcell hb1; have hB1 : Below w.heap.size w w1 := (below_then (by first | (go_grown; done) | (repeat (first | (with_reducible assumption) | (with_reducible exact Below.refl _ _) | (with_reducible refine below_drewN' ?_ _) | (with_reducible refine Below.drew ?_) | ((with_reducible refine Below.alloc ?_ ?_ _); rotate_left; focus (first | (simp; done) | (simp; omega) | omega)) | ((with_reducible refine Below.setCell ?_ ?_ _); rotate_left; focus (first | (simp; done) | (simp; omega) | omega))))) (by first | omega | (simp; done) | (simp; omega)) hb1); have hz1a : w.heap.size < w1.heap.size := (by have := hb1.size; first | omega | (simp at this; omega)))
        go_ret
        exact ⟨ret_bool (by rw [HX.out, h5]; simp), by (repeat (first | (with_reducible assumption) | (with_reducible exact Below.refl _ _) | (with_reducible refine below_drewN' ?_ _) | (with_reducible refine Below.drew ?_) | ((with_reducible refine Below.alloc ?_ ?_ _); rotate_left; focus (first | (simp; done) | (simp; omega) | omega)) | ((with_reducible refine Below.setCell ?_ ?_ _); rotate_left; focus (first | (simp; done) | (simp; omega) | omega))))⟩
      · go_enter Try.func19, Try.ntmps19
        go_wp2_with first | (go_at_call 59; refine (HNM.out _).mono ?_; rintro e w' ⟨rfl, rfl⟩) | (go_at_call 60; refine (inRange_any _ _ _ _).mono ?_; rintro e w' ⟨rfl, rfl⟩)
        (go_at_call 61; refine (HL.out _ (by go_grown)).mono ?_; rintro e w' ⟨rfl, rfl⟩)
        go_wp2_with first | (go_at_call 60; refine (inRange_any _ _ _ _).mono ?_; rintro e w' ⟨rfl, rfl⟩) | (go_at_call 64; with_reducible refine (HF32.out _).mono ?_; rintro e1 w1 ⟨rfl, hb1⟩; obtain ⟨hc1, hf1⟩ := bcell hb1; have hB1 : Below w.heap.size w w1 := (below_then (by first | (go_grown; done) | (repeat (first | (with_reducible assumption) | (with_reducible exact Below.refl _ _) | (with_reducible refine below_drewN' ?_ _) | (with_reducible refine Below.drew ?_) | ((with_reducible refine Below.alloc ?_ ?_ _); rotate_left; focus (first | (simp; done) | (simp; omega) | omega)) | ((with_reducible refine Below.setCell ?_ ?_ _); rotate_left; focus (first | (simp; done) | (simp; omega) | omega))))) (by first | omega | (simp; done) | (simp; omega)) hb1); have hz1a : w.heap.size < w1.heap.size := (by have := hb1.size; first | omega | (simp at this; omega)))
        (go_at_call 61; refine (HZ2.out _ (by repeat (first | (with_reducible assumption) | (refine Below.alloc ?_ (by omega) _)))).mono ?_; rintro e w' ⟨rfl, rfl⟩)
        go_wp2_with fail
        go_ret
        exact ⟨ret_bool (by rw [HX.out, h5]; rfl), by (repeat (first | (with_reducible assumption) | (with_reducible exact Below.refl _ _) | (with_reducible refine below_drewN' ?_ _) | (with_reducible refine Below.drew ?_) | ((with_reducible refine Below.alloc ?_ ?_ _); rotate_left; focus (first | (simp; done) | (simp; omega) | omega)) | ((with_reducible refine Below.setCell ?_ ?_ _); rotate_left; focus (first | (simp; done) | (simp; omega) | omega))))⟩
    · have HN : Hid (fld32 p k g = false) := Lib.hid (by
        cases e : fld32 p k g with
        | false => rfl
        | true => simp only [fld32, Bool.and_eq_true, beq_iff_eq] at e; exact absurd e hf)
      by_cases hp : p = 2
      · by_cases hk : k = 5
        · have hg : ¬ g = 37 := fun e => hf ⟨hp, hk, e⟩
          subst hp hk
          clear hf
          go_enter Try.func19, Try.ntmps19
          go_wp2_with first | (go_at_call 59; refine (HNM.out _).mono ?_; rintro e w' ⟨rfl, rfl⟩) | (go_at_call 60; refine (inRange_any _ _ _ _).mono ?_; rintro e w' ⟨rfl, rfl⟩)
          (go_at_call 61; refine (HL.out _ (by go_grown)).mono ?_; rintro e w' ⟨rfl, rfl⟩)
          go_wp2_with first | (go_at_call 60; refine (inRange_any _ _ _ _).mono ?_; rintro e w' ⟨rfl, rfl⟩) | (go_at_call 64; with_reducible refine (HF32.out _).mono ?_; rintro e1 w1 ⟨rfl, hb1⟩; obtain ⟨hc1, hf1⟩ := bcell hb1; have hB1 : Below w.heap.size w w1 := (below_then (by first | (go_grown; done) | (repeat (first | (with_reducible assumption) | (with_reducible exact Below.refl _ _) | (with_reducible refine below_drewN' ?_ _) | (with_reducible refine Below.drew ?_) | ((with_reducible refine Below.alloc ?_ ?_ _); rotate_left; focus (first | (simp; done) | (simp; omega) | omega)) | ((with_reducible refine Below.setCell ?_ ?_ _); rotate_left; focus (first | (simp; done) | (simp; omega) | omega))))) (by first | omega | (simp; done) | (simp; omega)) hb1); have hz1a : w.heap.size < w1.heap.size := (by have := hb1.size; first | omega | (simp at this; omega)))
          go_ret
          exact ⟨ret_bool (by rw [HX.out, HN.out]; rfl), by (repeat (first | (with_reducible assumption) | (with_reducible exact Below.refl _ _) | (with_reducible refine below_drewN' ?_ _) | (with_reducible refine Below.drew ?_) | ((with_reducible refine Below.alloc ?_ ?_ _); rotate_left; focus (first | (simp; done) | (simp; omega) | omega)) | ((with_reducible refine Below.setCell ?_ ?_ _); rotate_left; focus (first | (simp; done) | (simp; omega) | omega))))⟩
        · subst hp
          clear hf
          go_enter Try.func19, Try.ntmps19
          go_wp2_with first | (go_at_call 59; refine (HNM.out _).mono ?_; rintro e w' ⟨rfl, rfl⟩) | (go_at_call 60; refine (inRange_any _ _ _ _).mono ?_; rintro e w' ⟨rfl, rfl⟩)
          (go_at_call 61; refine (HL.out _ (by go_grown)).mono ?_; rintro e w' ⟨rfl, rfl⟩)
          go_wp2_with first | (go_at_call 60; refine (inRange_any _ _ _ _).mono ?_; rintro e w' ⟨rfl, rfl⟩) | (go_at_call 64; with_reducible refine (HF32.out _).mono ?_; rintro e1 w1 ⟨rfl, hb1⟩; obtain ⟨hc1, hf1⟩ := bcell hb1; have hB1 : Below w.heap.size w w1 := (below_then (by first | (go_grown; done) | (repeat (first | (with_reducible assumption) | (with_reducible exact Below.refl _ _) | (with_reducible refine below_drewN' ?_ _) | (with_reducible refine Below.drew ?_) | ((with_reducible refine Below.alloc ?_ ?_ _); rotate_left; focus (first | (simp; done) | (simp; omega) | omega)) | ((with_reducible refine Below.setCell ?_ ?_ _); rotate_left; focus (first | (simp; done) | (simp; omega) | omega))))) (by first | omega | (simp; done) | (simp; omega)) hb1); have hz1a : w.heap.size < w1.heap.size := (by have := hb1.size; first | omega | (simp at this; omega)))
          go_ret
          exact ⟨ret_bool (by rw [HX.out, HN.out]; rfl), by (repeat (first | (with_reducible assumption) | (with_reducible exact Below.refl _ _) | (with_reducible refine below_drewN' ?_ _) | (with_reducible refine Below.drew ?_) | ((with_reducible refine Below.alloc ?_ ?_ _); rotate_left; focus (first | (simp; done) | (simp; omega) | omega)) | ((with_reducible refine Below.setCell ?_ ?_ _); rotate_left; focus (first | (simp; done) | (simp; omega) | omega))))⟩
      · clear hf
        go_enter Try.func19, Try.ntmps19
        go_wp2_with first | (go_at_call 59; refine (HNM.out _).mono ?_; rintro e w' ⟨rfl, rfl⟩) | (go_at_call 60; refine (inRange_any _ _ _ _).mono ?_; rintro e w' ⟨rfl, rfl⟩)
        (go_at_call 61; refine (HL.out _ (by go_grown)).mono ?_; rintro e w' ⟨rfl, rfl⟩)
        go_wp2_with first | (go_at_call 60; refine (inRange_any _ _ _ _).mono ?_; rintro e w' ⟨rfl, rfl⟩) | (go_at_call 64; with_reducible refine (HF32.out _).mono ?_; rintro e1 w1 ⟨rfl, hb1⟩; obtain ⟨hc1, hf1⟩ := bcell hb1; have hB1 : Below w.heap.size w w1 := (below_then (by first | (go_grown; done) | (repeat (first | (with_reducible assumption) | (with_reducible exact Below.refl _ _) | (with_reducible refine below_drewN' ?_ _) | (with_reducible refine Below.drew ?_) | ((with_reducible refine Below.alloc ?_ ?_ _); rotate_left; focus (first | (simp; done) | (simp; omega) | omega)) | ((with_reducible refine Below.setCell ?_ ?_ _); rotate_left; focus (first | (simp; done) | (simp; omega) | omega))))) (by first | omega | (simp; done) | (simp; omega)) hb1); have hz1a : w.heap.size < w1.heap.size := (by have := hb1.size; first | omega | (simp at this; omega)))
        go_ret
        exact ⟨ret_bool (by rw [HX.out, HN.out]; rfl), by (repeat (first | (with_reducible assumption) | (with_reducible exact Below.refl _ _) | (with_reducible refine below_drewN' ?_ _) | (with_reducible refine Below.drew ?_) | ((with_reducible refine Below.alloc ?_ ?_ _); rotate_left; focus (first | (simp; done) | (simp; omega) | omega)) | ((with_reducible refine Below.setCell ?_ ?_ _); rotate_left; focus (first | (simp; done) | (simp; omega) | omega))))⟩

  · have hk2' : (kind == 2) = false := by simpa using hk2
    have HX := Lib.hid (fam_no (s := s) (kind := kind) (p := p) (k := k) (g := g) (col := col) (n1 := n1) (n2 := n2) (sz := sz) (lv := lv) (.inr (.inr (.inr (.inr ⟨hk1, hk2⟩)))))
    go_enter Try.func19, Try.ntmps19
    go_wp2_with first | (go_at_call 59; refine (HNM.out _).mono ?_; rintro e w' ⟨rfl, rfl⟩) | (go_at_call 60; refine (inRange_any _ _ _ _).mono ?_; rintro e w' ⟨rfl, rfl⟩)
    (go_at_call 61; refine (HL.out _ (by (repeat (first | (with_reducible assumption) | (with_reducible exact Below.refl _ _) | (with_reducible refine below_drewN' ?_ _) | (with_reducible refine Below.drew ?_) | ((with_reducible refine Below.alloc ?_ ?_ _); rotate_left; focus (first | (simp; done) | (simp; omega) | omega)) | ((with_reducible refine Below.setCell ?_ ?_ _); rotate_left; focus (first | (simp; done) | (simp; omega) | omega)))))).mono ?_; rintro e w' ⟨rfl, rfl⟩)
    go_wp2_with fail
    go_ret
    exact ⟨ret_bool HX.out.symm, by (repeat (first | (with_reducible assumption) | (with_reducible exact Below.refl _ _) | (with_reducible refine below_drewN' ?_ _) | (with_reducible refine Below.drew ?_) | ((with_reducible refine Below.alloc ?_ ?_ _); rotate_left; focus (first | (simp; done) | (simp; omega) | omega)) | ((with_reducible refine Below.setCell ?_ ?_ _); rotate_left; focus (first | (simp; done) | (simp; omega) | omega))))⟩
end Go.Proofs.Ytbgcbjfimjfbpaa
