/-
  Contracts of chapter 13, the reference: which families are valid.
-/
import Derived.Test.YtbgcbjfimjfbpaaC13F
namespace Go.Proofs.Ytbgcbjfimjfbpaa
set_option linter.unusedSimpArgs false
open Go.RowKit

theorem famS_field {s : ByteArray} {kind p k g col : Int} {n1 n2 : Nat} {sz lv : List Int} (h : fieldB p k g = false) : famB s kind p k g col n1 sz n2 lv = false := by
  by_cases h1 : kind = 1
  · simp [famB, h1, h]
  · have : fld32 p k g = false := by
      cases e : fld32 p k g with
      | false => rfl
      | true =>
        simp only [fld32, Bool.and_eq_true, beq_iff_eq] at e
        obtain ⟨rfl, rfl, rfl⟩ := e
        rw [f32_yes] at h; cases h
    simp [famB, h1, this]
theorem famS_lev {s : ByteArray} {kind p k g col : Int} {n1 n2 : Nat} {sz lv : List Int} (h : (inR (n2 : Int) 1 4 && risB 1 80 lv) = false) : famB s kind p k g col n1 sz n2 lv = false := by
  unfold famB
  cases h1 : inR (n2 : Int) 1 4
  · simp
  · rw [h1] at h
    simp only [Bool.true_and] at h
    simp [h]
theorem famS_2 {s : ByteArray} {p k g col : Int} {n1 n2 : Nat} {sz lv : List Int} (h1 : nameB s = true) (h3 : (inR (n2 : Int) 1 4 && risB 1 80 lv) = true) :
    famB s 2 p k g col n1 sz n2 lv = (fld32 p k g && (inR col 1 8 && (inR (n1 : Int) 1 8 && risB 3 24 sz))) := by
  simp only [Bool.and_eq_true] at h3
  simp [famB, h1, h3.1, h3.2]
  cases inR (n1 : Int) 1 8 <;> simp
theorem famS_1 {s : ByteArray} {p k g col : Int} {n1 n2 : Nat} {sz lv : List Int} (h1 : nameB s = true) (h2 : fieldB p k g = true) (h3 : (inR (n2 : Int) 1 4 && risB 1 80 lv) = true) :
    famB s 1 p k g col n1 sz n2 lv = ((p == 2) && ((col == 0) && ((inR (n1 : Int) 1 8 && risB 17 41 sz) && sz.all mod4B))) := by
  simp only [Bool.and_eq_true] at h3
  simp [famB, h1, h2, h3.1, h3.2]
  cases inR (n1 : Int) 1 8 <;> simp
theorem mod4_no {sz : List Int} {i : Nat} (hi : i < sz.length) (h : mod4B (nth sz i) = false) : sz.all mod4B = false := by
  cases e : sz.all mod4B with
  | false => rfl
  | true => rw [List.all_eq_true.1 e _ (nth_mem hi)] at h; cases h
set_option maxHeartbeats 4000000 in
theorem sIsFamily_any (s : ByteArray) (kind p k g col : Int) (A1 A2 : Option Addr) (n1 c1 n2 c2 : Nat) (sz lv : List Int) (w : World) (B : Nat) (hF : FamOk w B s A1 n1 sz A2 n2 lv) (hB : B ≤ w.heap.size) :
    Calls Try.prog 20 #[.agg #[.string s, .int .i64 kind, .int .i64 p, .int .i64 k, .int .i64 g, .slice A1 n1 c1, .int .i64 col, .slice A2 n2 c2]] w fun e w' => e = .returned (.bool (famB s kind p k g col n1 sz n2 lv)) ∧ Below w.heap.size w w' := by
  have HL := Lib.hid (fun (w' : World) (hb : Below w.heap.size w w') => l13Rises_any 4 1 80 A2 n2 c2 lv w' w.heap.size ((hF.h2.more hB).below hb) (by have := hF.l2; omega) (by omega))
  have HZ1 := Lib.hid (fun (w' : World) (hb : Below w.heap.size w w') => l13Rises_any 8 17 41 A1 n1 c1 sz w' w.heap.size ((hF.h1.more hB).below hb) (by have := hF.l1; omega) (by omega))
  have HZ2 := Lib.hid (fun (w' : World) (hb : Below w.heap.size w w') => l13Rises_any 8 3 24 A1 n1 c1 sz w' w.heap.size ((hF.h1.more hB).below hb) (by have := hF.l1; omega) (by omega))
  rw [show ((4 : Nat) : Int) = 4 from rfl] at HL
  rw [show ((8 : Nat) : Int) = 8 from rfl] at HZ1 HZ2
  have HNM := Lib.hid (fun w => l13Name_any s w hF.hs)
  have HR1 := Lib.hid (hF.h1.more hB)
  have hl1 := hF.l1
  have hl2 := hF.l2
  have HFI := Lib.hid (fun w => sIsField_any p k g w)
  clear hF
  cases h1 : nameB s
  · have HX := Lib.hid (fam_no (kind := kind) (p := p) (k := k) (g := g) (col := col) (n1 := n1) (n2 := n2) (sz := sz) (lv := lv) (.inl h1))
    go_enter Try.func20, Try.ntmps20
    go_wp2_with (go_at_call 65; refine (HNM.out _).mono ?_; rintro e w' ⟨rfl, rfl⟩)
    go_ret
    exact ⟨ret_bool HX.out.symm, by (repeat (first | (with_reducible assumption) | (with_reducible exact Below.refl _ _) | (with_reducible refine below_drewN' ?_ _) | (with_reducible refine Below.drew ?_) | ((with_reducible refine Below.alloc ?_ ?_ _); rotate_left; focus (first | (simp; done) | (simp; omega) | omega)) | ((with_reducible refine Below.setCell ?_ ?_ _); rotate_left; focus (first | (simp; done) | (simp; omega) | omega))))⟩
  cases h2 : fieldB p k g
  · have HX := Lib.hid (famS_field (s := s) (kind := kind) (col := col) (n1 := n1) (n2 := n2) (sz := sz) (lv := lv) h2)
    rw [h2] at HFI
    clear h2
    go_enter Try.func20, Try.ntmps20
    go_wp2_with first | (go_at_call 65; refine (HNM.out _).mono ?_; rintro e w' ⟨rfl, rfl⟩) | (go_at_call 66; with_reducible refine (HFI.out _).mono ?_; rintro e8 w8 ⟨rfl, hb8⟩; obtain ⟨hc8, hf8⟩ := bcell hb8; have hB8 : Below w.heap.size w w8 := (below_then (by first | (go_grown; done) | (repeat (first | (with_reducible assumption) | (with_reducible exact Below.refl _ _) | (with_reducible refine below_drewN' ?_ _) | (with_reducible refine Below.drew ?_) | ((with_reducible refine Below.alloc ?_ ?_ _); rotate_left; focus (first | (simp; done) | (simp; omega) | omega)) | ((with_reducible refine Below.setCell ?_ ?_ _); rotate_left; focus (first | (simp; done) | (simp; omega) | omega))))) (by first | omega | (simp; done) | (simp; omega)) hb8); have hz8a : w.heap.size < w8.heap.size := (by have := hb8.size; first | omega | (simp at this; omega)))
    go_ret
    exact ⟨ret_bool HX.out.symm, by (repeat (first | (with_reducible assumption) | (with_reducible exact Below.refl _ _) | (with_reducible refine below_drewN' ?_ _) | (with_reducible refine Below.drew ?_) | ((with_reducible refine Below.alloc ?_ ?_ _); rotate_left; focus (first | (simp; done) | (simp; omega) | omega)) | ((with_reducible refine Below.setCell ?_ ?_ _); rotate_left; focus (first | (simp; done) | (simp; omega) | omega))))⟩
  rw [h2] at HFI
  cases h3 : (inR (n2 : Int) 1 4 && risB 1 80 lv)
  · have HX := Lib.hid (famS_lev (s := s) (kind := kind) (p := p) (k := k) (g := g) (col := col) (n1 := n1) (sz := sz) h3)
    rw [h3] at HL
    clear h2 h3
    go_enter Try.func20, Try.ntmps20
    go_wp2_with first | (go_at_call 65; refine (HNM.out _).mono ?_; rintro e w' ⟨rfl, rfl⟩) | (go_at_call 66; with_reducible refine (HFI.out _).mono ?_; rintro e8 w8 ⟨rfl, hb8⟩; obtain ⟨hc8, hf8⟩ := bcell hb8; have hB8 : Below w.heap.size w w8 := (below_then (by first | (go_grown; done) | (repeat (first | (with_reducible assumption) | (with_reducible exact Below.refl _ _) | (with_reducible refine below_drewN' ?_ _) | (with_reducible refine Below.drew ?_) | ((with_reducible refine Below.alloc ?_ ?_ _); rotate_left; focus (first | (simp; done) | (simp; omega) | omega)) | ((with_reducible refine Below.setCell ?_ ?_ _); rotate_left; focus (first | (simp; done) | (simp; omega) | omega))))) (by first | omega | (simp; done) | (simp; omega)) hb8); have hz8a : w.heap.size < w8.heap.size := (by have := hb8.size; first | omega | (simp at this; omega)))
    (go_at_call 67; refine (HL.out _ (by (repeat (first | (with_reducible assumption) | (with_reducible exact Below.refl _ _) | (with_reducible refine below_drewN' ?_ _) | (with_reducible refine Below.drew ?_) | ((with_reducible refine Below.alloc ?_ ?_ _); rotate_left; focus (first | (simp; done) | (simp; omega) | omega)) | ((with_reducible refine Below.setCell ?_ ?_ _); rotate_left; focus (first | (simp; done) | (simp; omega) | omega)))))).mono ?_; rintro e9 w9 ⟨rfl, hb9⟩; obtain ⟨hc9, hf9⟩ := bcell hb9; have hB9 : Below w.heap.size w w9 := (below_then (by first | (go_grown; done) | (repeat (first | (with_reducible assumption) | (with_reducible exact Below.refl _ _) | (with_reducible refine below_drewN' ?_ _) | (with_reducible refine Below.drew ?_) | ((with_reducible refine Below.alloc ?_ ?_ _); rotate_left; focus (first | (simp; done) | (simp; omega) | omega)) | ((with_reducible refine Below.setCell ?_ ?_ _); rotate_left; focus (first | (simp; done) | (simp; omega) | omega))))) (by first | omega | (simp; done) | (simp; omega)) hb9); have hz9a : w.heap.size < w9.heap.size := (by have := hb9.size; first | omega | (simp at this; omega)))
    go_wp2_with fail
    go_ret
    exact ⟨ret_bool HX.out.symm, by (repeat (first | (with_reducible assumption) | (with_reducible exact Below.refl _ _) | (with_reducible refine below_drewN' ?_ _) | (with_reducible refine Below.drew ?_) | ((with_reducible refine Below.alloc ?_ ?_ _); rotate_left; focus (first | (simp; done) | (simp; omega) | omega)) | ((with_reducible refine Below.setCell ?_ ?_ _); rotate_left; focus (first | (simp; done) | (simp; omega) | omega))))⟩
  rw [h3] at HL
  by_cases hk2 : kind = 2
  · subst hk2
    have HX := Lib.hid (famS_2 (p := p) (k := k) (g := g) (col := col) (n1 := n1) (sz := sz) h1 h3)
    clear h2 h3
    have HF32 := Lib.hid (fun w => sFieldOf_32 w)
    by_cases hf : p = 2 ∧ k = 5 ∧ g = 37
    · obtain ⟨rfl, rfl, rfl⟩ := hf
      cases h5 : inR col 1 8
      · go_enter Try.func20, Try.ntmps20
        go_wp2_with first | (go_at_call 65; refine (HNM.out _).mono ?_; rintro e w' ⟨rfl, rfl⟩) | (go_at_call 66; with_reducible refine (HFI.out _).mono ?_; rintro e8 w8 ⟨rfl, hb8⟩; obtain ⟨hc8, hf8⟩ := bcell hb8; have hB8 : Below w.heap.size w w8 := (below_then (by go_grown) (by simp) hb8); have hz8a : w.heap.size < w8.heap.size := (by have := hb8.size; simp at this; omega))
        (go_at_call 67; refine (HL.out _ hB8).mono ?_; rintro e9 w9 ⟨rfl, hb9⟩; obtain ⟨hc9, hf9⟩ := bcell hb9; have hB9 : Below w.heap.size w w9 := (below_then hB8 (by omega) hb9); have hz9a : w.heap.size < w9.heap.size := (by have := hb9.size; omega))
        go_wp2_with first | (go_at_call 47; refine (l01In_any _ _ _ _).mono ?_; rintro e w' ⟨rfl, rfl⟩) | (go_at_call 68; with_reducible refine (HF32.out _).mono ?_; rintro e1 w1 ⟨rfl, hb1⟩; obtain ⟨hc1, hf1⟩ := bcell hb1; have hB1 : Below w.heap.size w w1 := (below_then (by first | (go_grown; done) | (repeat (first | (with_reducible assumption) | (with_reducible exact Below.refl _ _) | (with_reducible refine below_drewN' ?_ _) | (with_reducible refine Below.drew ?_) | ((with_reducible refine Below.alloc ?_ ?_ _); rotate_left; focus (first | (simp; done) | (simp; omega) | omega)) | ((with_reducible refine Below.setCell ?_ ?_ _); rotate_left; focus (first | (simp; done) | (simp; omega) | omega))))) (by first | omega | (simp; done) | (simp; omega)) hb1); have hz1a : w.heap.size < w1.heap.size := (by have := hb1.size; first | omega | (simp at this; omega)))
        go_ret
        exact ⟨ret_bool (by rw [HX.out, h5]; simp), by (repeat (first | (with_reducible assumption) | (with_reducible exact Below.refl _ _) | (with_reducible refine below_drewN' ?_ _) | (with_reducible refine Below.drew ?_) | ((with_reducible refine Below.alloc ?_ ?_ _); rotate_left; focus (first | (simp; done) | (simp; omega) | omega)) | ((with_reducible refine Below.setCell ?_ ?_ _); rotate_left; focus (first | (simp; done) | (simp; omega) | omega))))⟩
      · go_enter Try.func20, Try.ntmps20
        go_wp2_with first | (go_at_call 65; refine (HNM.out _).mono ?_; rintro e w' ⟨rfl, rfl⟩) | (go_at_call 66; with_reducible refine (HFI.out _).mono ?_; rintro e8 w8 ⟨rfl, hb8⟩; obtain ⟨hc8, hf8⟩ := bcell hb8; have hB8 : Below w.heap.size w w8 := (below_then (by go_grown) (by simp) hb8); have hz8a : w.heap.size < w8.heap.size := (by have := hb8.size; simp at this; omega))
        (go_at_call 67; refine (HL.out _ hB8).mono ?_; rintro e9 w9 ⟨rfl, hb9⟩; obtain ⟨hc9, hf9⟩ := bcell hb9; have hB9 : Below w.heap.size w w9 := (below_then hB8 (by omega) hb9); have hz9a : w.heap.size < w9.heap.size := (by have := hb9.size; omega))
        go_wp2_with first | (go_at_call 47; refine (l01In_any _ _ _ _).mono ?_; rintro e w' ⟨rfl, rfl⟩) | (go_at_call 68; with_reducible refine (HF32.out _).mono ?_; rintro e1 w1 ⟨rfl, hb1⟩; obtain ⟨hc1, hf1⟩ := bcell hb1; have hB1 : Below w.heap.size w w1 := (below_then (by first | (go_grown; done) | (repeat (first | (with_reducible assumption) | (with_reducible exact Below.refl _ _) | (with_reducible refine below_drewN' ?_ _) | (with_reducible refine Below.drew ?_) | ((with_reducible refine Below.alloc ?_ ?_ _); rotate_left; focus (first | (simp; done) | (simp; omega) | omega)) | ((with_reducible refine Below.setCell ?_ ?_ _); rotate_left; focus (first | (simp; done) | (simp; omega) | omega))))) (by first | omega | (simp; done) | (simp; omega)) hb1); have hz1a : w.heap.size < w1.heap.size := (by have := hb1.size; first | omega | (simp at this; omega)))
        (go_at_call 67; refine (HZ2.out _ (by repeat (first | (with_reducible assumption) | (refine Below.alloc ?_ (by omega) _)))).mono ?_; rintro e7 w7 ⟨rfl, hb7⟩; have hB7 : Below w.heap.size w w7 := (below_then (by repeat (first | (with_reducible assumption) | (refine Below.alloc ?_ (by omega) _))) (by simp; omega) hb7))
        go_wp2_with fail
        go_ret
        exact ⟨ret_bool (by rw [HX.out, h5]; rfl), by (repeat (first | (with_reducible assumption) | (with_reducible exact Below.refl _ _) | (with_reducible refine below_drewN' ?_ _) | (with_reducible refine Below.drew ?_) | ((with_reducible refine Below.alloc ?_ ?_ _); rotate_left; focus (first | (simp; done) | (simp; omega) | omega)) | ((with_reducible refine Below.setCell ?_ ?_ _); rotate_left; focus (first | (simp; done) | (simp; omega) | omega))))⟩
    · have HN : Hid (fld32 p k g = false) := Lib.hid (by
        cases e : fld32 p k g with
        | false => rfl
        | true => simp only [fld32, Bool.and_eq_true, beq_iff_eq] at e; exact absurd e hf)
      by_cases hp : p = 2
      · by_cases hk : k = 5
        · have hg : ¬ g = 37 := fun e => hf ⟨hp, hk, e⟩
          subst hp hk
          clear hf
          go_enter Try.func20, Try.ntmps20
          go_wp2_with first | (go_at_call 65; refine (HNM.out _).mono ?_; rintro e w' ⟨rfl, rfl⟩) | (go_at_call 66; with_reducible refine (HFI.out _).mono ?_; rintro e8 w8 ⟨rfl, hb8⟩; obtain ⟨hc8, hf8⟩ := bcell hb8; have hB8 : Below w.heap.size w w8 := (below_then (by go_grown) (by simp) hb8); have hz8a : w.heap.size < w8.heap.size := (by have := hb8.size; simp at this; omega))
          (go_at_call 67; refine (HL.out _ hB8).mono ?_; rintro e9 w9 ⟨rfl, hb9⟩; obtain ⟨hc9, hf9⟩ := bcell hb9; have hB9 : Below w.heap.size w w9 := (below_then hB8 (by omega) hb9); have hz9a : w.heap.size < w9.heap.size := (by have := hb9.size; omega))
          go_wp2_with first | (go_at_call 47; refine (l01In_any _ _ _ _).mono ?_; rintro e w' ⟨rfl, rfl⟩) | (go_at_call 68; with_reducible refine (HF32.out _).mono ?_; rintro e1 w1 ⟨rfl, hb1⟩; obtain ⟨hc1, hf1⟩ := bcell hb1; have hB1 : Below w.heap.size w w1 := (below_then (by first | (go_grown; done) | (repeat (first | (with_reducible assumption) | (with_reducible exact Below.refl _ _) | (with_reducible refine below_drewN' ?_ _) | (with_reducible refine Below.drew ?_) | ((with_reducible refine Below.alloc ?_ ?_ _); rotate_left; focus (first | (simp; done) | (simp; omega) | omega)) | ((with_reducible refine Below.setCell ?_ ?_ _); rotate_left; focus (first | (simp; done) | (simp; omega) | omega))))) (by first | omega | (simp; done) | (simp; omega)) hb1); have hz1a : w.heap.size < w1.heap.size := (by have := hb1.size; first | omega | (simp at this; omega)))
          go_ret
          exact ⟨ret_bool (by rw [HX.out, HN.out]; rfl), by (repeat (first | (with_reducible assumption) | (with_reducible exact Below.refl _ _) | (with_reducible refine below_drewN' ?_ _) | (with_reducible refine Below.drew ?_) | ((with_reducible refine Below.alloc ?_ ?_ _); rotate_left; focus (first | (simp; done) | (simp; omega) | omega)) | ((with_reducible refine Below.setCell ?_ ?_ _); rotate_left; focus (first | (simp; done) | (simp; omega) | omega))))⟩
        · subst hp
          clear hf
          go_enter Try.func20, Try.ntmps20
          go_wp2_with first | (go_at_call 65; refine (HNM.out _).mono ?_; rintro e w' ⟨rfl, rfl⟩) | (go_at_call 66; with_reducible refine (HFI.out _).mono ?_; rintro e8 w8 ⟨rfl, hb8⟩; obtain ⟨hc8, hf8⟩ := bcell hb8; have hB8 : Below w.heap.size w w8 := (below_then (by go_grown) (by simp) hb8); have hz8a : w.heap.size < w8.heap.size := (by have := hb8.size; simp at this; omega))
          (go_at_call 67; refine (HL.out _ hB8).mono ?_; rintro e9 w9 ⟨rfl, hb9⟩; obtain ⟨hc9, hf9⟩ := bcell hb9; have hB9 : Below w.heap.size w w9 := (below_then hB8 (by omega) hb9); have hz9a : w.heap.size < w9.heap.size := (by have := hb9.size; omega))
          go_wp2_with first | (go_at_call 47; refine (l01In_any _ _ _ _).mono ?_; rintro e w' ⟨rfl, rfl⟩) | (go_at_call 68; with_reducible refine (HF32.out _).mono ?_; rintro e1 w1 ⟨rfl, hb1⟩; obtain ⟨hc1, hf1⟩ := bcell hb1; have hB1 : Below w.heap.size w w1 := (below_then (by first | (go_grown; done) | (repeat (first | (with_reducible assumption) | (with_reducible exact Below.refl _ _) | (with_reducible refine below_drewN' ?_ _) | (with_reducible refine Below.drew ?_) | ((with_reducible refine Below.alloc ?_ ?_ _); rotate_left; focus (first | (simp; done) | (simp; omega) | omega)) | ((with_reducible refine Below.setCell ?_ ?_ _); rotate_left; focus (first | (simp; done) | (simp; omega) | omega))))) (by first | omega | (simp; done) | (simp; omega)) hb1); have hz1a : w.heap.size < w1.heap.size := (by have := hb1.size; first | omega | (simp at this; omega)))
          go_ret
          exact ⟨ret_bool (by rw [HX.out, HN.out]; rfl), by (repeat (first | (with_reducible assumption) | (with_reducible exact Below.refl _ _) | (with_reducible refine below_drewN' ?_ _) | (with_reducible refine Below.drew ?_) | ((with_reducible refine Below.alloc ?_ ?_ _); rotate_left; focus (first | (simp; done) | (simp; omega) | omega)) | ((with_reducible refine Below.setCell ?_ ?_ _); rotate_left; focus (first | (simp; done) | (simp; omega) | omega))))⟩
      · clear hf
        go_enter Try.func20, Try.ntmps20
        go_wp2_with first | (go_at_call 65; refine (HNM.out _).mono ?_; rintro e w' ⟨rfl, rfl⟩) | (go_at_call 66; with_reducible refine (HFI.out _).mono ?_; rintro e8 w8 ⟨rfl, hb8⟩; obtain ⟨hc8, hf8⟩ := bcell hb8; have hB8 : Below w.heap.size w w8 := (below_then (by go_grown) (by simp) hb8); have hz8a : w.heap.size < w8.heap.size := (by have := hb8.size; simp at this; omega))
        (go_at_call 67; refine (HL.out _ hB8).mono ?_; rintro e9 w9 ⟨rfl, hb9⟩; obtain ⟨hc9, hf9⟩ := bcell hb9; have hB9 : Below w.heap.size w w9 := (below_then hB8 (by omega) hb9); have hz9a : w.heap.size < w9.heap.size := (by have := hb9.size; omega))
        go_wp2_with first | (go_at_call 47; refine (l01In_any _ _ _ _).mono ?_; rintro e w' ⟨rfl, rfl⟩) | (go_at_call 68; with_reducible refine (HF32.out _).mono ?_; rintro e1 w1 ⟨rfl, hb1⟩; obtain ⟨hc1, hf1⟩ := bcell hb1; have hB1 : Below w.heap.size w w1 := (below_then (by first | (go_grown; done) | (repeat (first | (with_reducible assumption) | (with_reducible exact Below.refl _ _) | (with_reducible refine below_drewN' ?_ _) | (with_reducible refine Below.drew ?_) | ((with_reducible refine Below.alloc ?_ ?_ _); rotate_left; focus (first | (simp; done) | (simp; omega) | omega)) | ((with_reducible refine Below.setCell ?_ ?_ _); rotate_left; focus (first | (simp; done) | (simp; omega) | omega))))) (by first | omega | (simp; done) | (simp; omega)) hb1); have hz1a : w.heap.size < w1.heap.size := (by have := hb1.size; first | omega | (simp at this; omega)))
        go_ret
        exact ⟨ret_bool (by rw [HX.out, HN.out]; rfl), by (repeat (first | (with_reducible assumption) | (with_reducible exact Below.refl _ _) | (with_reducible refine below_drewN' ?_ _) | (with_reducible refine Below.drew ?_) | ((with_reducible refine Below.alloc ?_ ?_ _); rotate_left; focus (first | (simp; done) | (simp; omega) | omega)) | ((with_reducible refine Below.setCell ?_ ?_ _); rotate_left; focus (first | (simp; done) | (simp; omega) | omega))))⟩

  have hk2' : (kind == 2) = false := by simpa using hk2
  by_cases hk1 : kind = 1
  · subst hk1
    have HX := Lib.hid (famS_1 (k := k) (g := g) (col := col) (n1 := n1) (sz := sz) (p := p) h1 h2 h3)
    clear h2 h3
    by_cases hp : p = 2
    · subst hp
      by_cases hcol : col = 0
      · subst hcol
        cases h4 : (inR (n1 : Int) 1 8 && risB 17 41 sz)
        · rw [h4] at HZ1 HX
          clear h4
          go_enter Try.func20, Try.ntmps20
          go_wp2_with first | (go_at_call 65; refine (HNM.out _).mono ?_; rintro e w' ⟨rfl, rfl⟩) | (go_at_call 66; with_reducible refine (HFI.out _).mono ?_; rintro e8 w8 ⟨rfl, hb8⟩; obtain ⟨hc8, hf8⟩ := bcell hb8; have hB8 : Below w.heap.size w w8 := (below_then (by first | (go_grown; done) | (repeat (first | (with_reducible assumption) | (with_reducible exact Below.refl _ _) | (with_reducible refine below_drewN' ?_ _) | (with_reducible refine Below.drew ?_) | ((with_reducible refine Below.alloc ?_ ?_ _); rotate_left; focus (first | (simp; done) | (simp; omega) | omega)) | ((with_reducible refine Below.setCell ?_ ?_ _); rotate_left; focus (first | (simp; done) | (simp; omega) | omega))))) (by first | omega | (simp; done) | (simp; omega)) hb8); have hz8a : w.heap.size < w8.heap.size := (by have := hb8.size; first | omega | (simp at this; omega)))
          (go_at_call 67; refine (HL.out _ (by (repeat (first | (with_reducible assumption) | (with_reducible exact Below.refl _ _) | (with_reducible refine below_drewN' ?_ _) | (with_reducible refine Below.drew ?_) | ((with_reducible refine Below.alloc ?_ ?_ _); rotate_left; focus (first | (simp; done) | (simp; omega) | omega)) | ((with_reducible refine Below.setCell ?_ ?_ _); rotate_left; focus (first | (simp; done) | (simp; omega) | omega)))))).mono ?_; rintro e9 w9 ⟨rfl, hb9⟩; obtain ⟨hc9, hf9⟩ := bcell hb9; have hB9 : Below w.heap.size w w9 := (below_then (by first | (go_grown; done) | (repeat (first | (with_reducible assumption) | (with_reducible exact Below.refl _ _) | (with_reducible refine below_drewN' ?_ _) | (with_reducible refine Below.drew ?_) | ((with_reducible refine Below.alloc ?_ ?_ _); rotate_left; focus (first | (simp; done) | (simp; omega) | omega)) | ((with_reducible refine Below.setCell ?_ ?_ _); rotate_left; focus (first | (simp; done) | (simp; omega) | omega))))) (by first | omega | (simp; done) | (simp; omega)) hb9); have hz9a : w.heap.size < w9.heap.size := (by have := hb9.size; first | omega | (simp at this; omega)))
          go_wp2_with fail
          (go_at_call 67; refine (HZ1.out _ (by (repeat (first | (with_reducible assumption) | (with_reducible exact Below.refl _ _) | (with_reducible refine below_drewN' ?_ _) | (with_reducible refine Below.drew ?_) | ((with_reducible refine Below.alloc ?_ ?_ _); rotate_left; focus (first | (simp; done) | (simp; omega) | omega)) | ((with_reducible refine Below.setCell ?_ ?_ _); rotate_left; focus (first | (simp; done) | (simp; omega) | omega)))))).mono ?_; rintro e7 w7 ⟨rfl, hb7⟩; obtain ⟨hc7, hf7⟩ := bcell hb7; have hB7 : Below w.heap.size w w7 := (below_then (by first | (go_grown; done) | (repeat (first | (with_reducible assumption) | (with_reducible exact Below.refl _ _) | (with_reducible refine below_drewN' ?_ _) | (with_reducible refine Below.drew ?_) | ((with_reducible refine Below.alloc ?_ ?_ _); rotate_left; focus (first | (simp; done) | (simp; omega) | omega)) | ((with_reducible refine Below.setCell ?_ ?_ _); rotate_left; focus (first | (simp; done) | (simp; omega) | omega))))) (by first | omega | (simp; done) | (simp; omega)) hb7); have hz7a : w.heap.size < w7.heap.size := (by have := hb7.size; first | omega | (simp at this; omega)))
          go_wp2_with fail
          go_ret
          exact ⟨ret_bool (by rw [HX.out]; rfl), by (repeat (first | (with_reducible assumption) | (with_reducible exact Below.refl _ _) | (with_reducible refine below_drewN' ?_ _) | (with_reducible refine Below.drew ?_) | ((with_reducible refine Below.alloc ?_ ?_ _); rotate_left; focus (first | (simp; done) | (simp; omega) | omega)) | ((with_reducible refine Below.setCell ?_ ?_ _); rotate_left; focus (first | (simp; done) | (simp; omega) | omega))))⟩
        · rw [h4] at HZ1 HX
          have H4 := Lib.hid h4
          clear h4
          go_enter Try.func20, Try.ntmps20
          go_wp2_with first | (go_at_call 65; refine (HNM.out _).mono ?_; rintro e w' ⟨rfl, rfl⟩) | (go_at_call 66; with_reducible refine (HFI.out _).mono ?_; rintro e8 w8 ⟨rfl, hb8⟩; obtain ⟨hc8, hf8⟩ := bcell hb8; have hB8 : Below w.heap.size w w8 := (below_then (by first | (go_grown; done) | (repeat (first | (with_reducible assumption) | (with_reducible exact Below.refl _ _) | (with_reducible refine below_drewN' ?_ _) | (with_reducible refine Below.drew ?_) | ((with_reducible refine Below.alloc ?_ ?_ _); rotate_left; focus (first | (simp; done) | (simp; omega) | omega)) | ((with_reducible refine Below.setCell ?_ ?_ _); rotate_left; focus (first | (simp; done) | (simp; omega) | omega))))) (by first | omega | (simp; done) | (simp; omega)) hb8); have hz8a : w.heap.size < w8.heap.size := (by have := hb8.size; first | omega | (simp at this; omega)))
          have hh8 := blk_below (heap_alloc_new w (.cells #[.string s, .int .i64 1, .int .i64 2, .int .i64 k, .int .i64 g, .slice A1 n1 c1, .int .i64 0, .slice A2 n2 c2] 34)) hb8 (by simp)
          (go_at_call 67; refine (HL.out _ (by (repeat (first | (with_reducible assumption) | (with_reducible exact Below.refl _ _) | (with_reducible refine below_drewN' ?_ _) | (with_reducible refine Below.drew ?_) | ((with_reducible refine Below.alloc ?_ ?_ _); rotate_left; focus (first | (simp; done) | (simp; omega) | omega)) | ((with_reducible refine Below.setCell ?_ ?_ _); rotate_left; focus (first | (simp; done) | (simp; omega) | omega)))))).mono ?_; rintro e9 w9 ⟨rfl, hb9⟩; obtain ⟨hc9, hf9⟩ := bcell hb9; have hB9 : Below w.heap.size w w9 := (below_then (by first | (go_grown; done) | (repeat (first | (with_reducible assumption) | (with_reducible exact Below.refl _ _) | (with_reducible refine below_drewN' ?_ _) | (with_reducible refine Below.drew ?_) | ((with_reducible refine Below.alloc ?_ ?_ _); rotate_left; focus (first | (simp; done) | (simp; omega) | omega)) | ((with_reducible refine Below.setCell ?_ ?_ _); rotate_left; focus (first | (simp; done) | (simp; omega) | omega))))) (by first | omega | (simp; done) | (simp; omega)) hb9); have hz9a : w.heap.size < w9.heap.size := (by have := hb9.size; first | omega | (simp at this; omega)))
          have hh9 := blk_below hh8 hb9 hz8a
          go_wp2_with fail
          (go_at_call 67; refine (HZ1.out _ (by (repeat (first | (with_reducible assumption) | (with_reducible exact Below.refl _ _) | (with_reducible refine below_drewN' ?_ _) | (with_reducible refine Below.drew ?_) | ((with_reducible refine Below.alloc ?_ ?_ _); rotate_left; focus (first | (simp; done) | (simp; omega) | omega)) | ((with_reducible refine Below.setCell ?_ ?_ _); rotate_left; focus (first | (simp; done) | (simp; omega) | omega)))))).mono ?_; rintro e7 w7 ⟨rfl, hb7⟩; obtain ⟨hc7, hf7⟩ := bcell hb7; have hB7 : Below w.heap.size w w7 := (below_then (by first | (go_grown; done) | (repeat (first | (with_reducible assumption) | (with_reducible exact Below.refl _ _) | (with_reducible refine below_drewN' ?_ _) | (with_reducible refine Below.drew ?_) | ((with_reducible refine Below.alloc ?_ ?_ _); rotate_left; focus (first | (simp; done) | (simp; omega) | omega)) | ((with_reducible refine Below.setCell ?_ ?_ _); rotate_left; focus (first | (simp; done) | (simp; omega) | omega))))) (by first | omega | (simp; done) | (simp; omega)) hb7); have hz7a : w.heap.size < w7.heap.size := (by have := hb7.size; first | omega | (simp at this; omega)))
          have hh7 := blk_below hh9 hb7 hz9a
          obtain ⟨k0, k1, k2, k3, k4, k5, k6, k7, -⟩ := blk8 hh7
          have HRA := Lib.hid (HR1.out.below hB7)
          have HB7 := Lib.hid hB7
          have HL1 := Lib.hid HR1.out.len
          clear hc7 hf7 hc8 hf8 hc9 hf9 hh8 hh9 hh7 HL HZ2 HZ1 HNM hb7 hb8 hb9 hB7 hB8 hB9
          go_wp2_with fail
          go_loop [5] (fun i => ∃ n : Nat, n ≤ n1 ∧ i = .int .i64 n ∧ Hid (∀ j, j < n → mod4B (nth sz j) = true)) (fun i => n1 - (intOf i).toNat)
          case atStart => exact ⟨0, Nat.zero_le _, rfl, Lib.hid (fun j h => by omega)⟩
          case round =>
            obtain ⟨n, hn, rfl, hup⟩ := hrel
            by_cases hlt : n < n1
            · obtain ⟨b, o, rfl, hb, hc⟩ := HRA.out.cells (by omega)
              have hck := hc n hlt
              clear hc
              have hrg := risB_in (lo := 17) (hi := 41) (xs := sz) (by have := H4.out; simp only [Bool.and_eq_true] at this; exact this.2) (i := n) (by have := HL1.out; omega)
              have hmm := Int.tmod_eq_emod_of_nonneg (a := nth sz n) (b := 4) (by omega)
              cases he : mod4B (nth sz n)
              · have HE := Lib.hid (mod4_no (by have := HL1.out; omega) he)
                have hne : (nth sz n % 4 != 1) = true := by unfold mod4B at he; rw [hmm] at he; simpa using he
                have HMM := Lib.hid hmm
                clear he hmm
                go_wp2_with fail
                go_ret
                exact ⟨ret_bool (by rw [HX.out, HE.out]; simp), HB7.out⟩
              · have HU : Hid (∀ j, j < n + 1 → mod4B (nth sz j) = true) := Lib.hid (fun j h => by
                  rcases Nat.lt_or_ge j n with hl | hl
                  · exact hup.out j hl
                  · obtain rfl : j = n := by omega
                    exact he)
                have hne : (nth sz n % 4 != 1) = false := by unfold mod4B at he; rw [hmm] at he; simpa using he
                have HMM := Lib.hid hmm
                clear he hmm
                go_wp2_with fail
                go_round
                case rel => exact ⟨n + 1, by omega, by go_num, HU⟩
                case measure => simp [intOf]; omega
            · have HM : Hid (sz.all mod4B = true) := Lib.hid (mods_ok fun i hi => hup.out i (by have := HL1.out; omega))
              go_wp2_with fail
              go_ret
              exact ⟨ret_bool (by rw [HX.out, HM.out]; simp), HB7.out⟩
      · have hc0 : (col == 0) = false := by simpa using hcol
        have hc1' : (col != 0) = true := by simpa using hcol
        have HC0 := Lib.hid hc0
        go_enter Try.func20, Try.ntmps20
        go_wp2_with first | (go_at_call 65; refine (HNM.out _).mono ?_; rintro e w' ⟨rfl, rfl⟩) | (go_at_call 66; with_reducible refine (HFI.out _).mono ?_; rintro e8 w8 ⟨rfl, hb8⟩; obtain ⟨hc8, hf8⟩ := bcell hb8; have hB8 : Below w.heap.size w w8 := (below_then (by first | (go_grown; done) | (repeat (first | (with_reducible assumption) | (with_reducible exact Below.refl _ _) | (with_reducible refine below_drewN' ?_ _) | (with_reducible refine Below.drew ?_) | ((with_reducible refine Below.alloc ?_ ?_ _); rotate_left; focus (first | (simp; done) | (simp; omega) | omega)) | ((with_reducible refine Below.setCell ?_ ?_ _); rotate_left; focus (first | (simp; done) | (simp; omega) | omega))))) (by first | omega | (simp; done) | (simp; omega)) hb8); have hz8a : w.heap.size < w8.heap.size := (by have := hb8.size; first | omega | (simp at this; omega)))
        (go_at_call 67; refine (HL.out _ (by (repeat (first | (with_reducible assumption) | (with_reducible exact Below.refl _ _) | (with_reducible refine below_drewN' ?_ _) | (with_reducible refine Below.drew ?_) | ((with_reducible refine Below.alloc ?_ ?_ _); rotate_left; focus (first | (simp; done) | (simp; omega) | omega)) | ((with_reducible refine Below.setCell ?_ ?_ _); rotate_left; focus (first | (simp; done) | (simp; omega) | omega)))))).mono ?_; rintro e9 w9 ⟨rfl, hb9⟩; obtain ⟨hc9, hf9⟩ := bcell hb9; have hB9 : Below w.heap.size w w9 := (below_then (by first | (go_grown; done) | (repeat (first | (with_reducible assumption) | (with_reducible exact Below.refl _ _) | (with_reducible refine below_drewN' ?_ _) | (with_reducible refine Below.drew ?_) | ((with_reducible refine Below.alloc ?_ ?_ _); rotate_left; focus (first | (simp; done) | (simp; omega) | omega)) | ((with_reducible refine Below.setCell ?_ ?_ _); rotate_left; focus (first | (simp; done) | (simp; omega) | omega))))) (by first | omega | (simp; done) | (simp; omega)) hb9); have hz9a : w.heap.size < w9.heap.size := (by have := hb9.size; first | omega | (simp at this; omega)))
        go_wp2_with fail
        go_ret
        exact ⟨ret_bool (by rw [HX.out, HC0.out]; rfl), by (repeat (first | (with_reducible assumption) | (with_reducible exact Below.refl _ _) | (with_reducible refine below_drewN' ?_ _) | (with_reducible refine Below.drew ?_) | ((with_reducible refine Below.alloc ?_ ?_ _); rotate_left; focus (first | (simp; done) | (simp; omega) | omega)) | ((with_reducible refine Below.setCell ?_ ?_ _); rotate_left; focus (first | (simp; done) | (simp; omega) | omega))))⟩
    · have hp2 : (p == 2) = false := by simpa using hp
      have hp3 : (p != 2) = true := by simpa using hp
      have HP2 := Lib.hid hp2
      go_enter Try.func20, Try.ntmps20
      go_wp2_with first | (go_at_call 65; refine (HNM.out _).mono ?_; rintro e w' ⟨rfl, rfl⟩) | (go_at_call 66; with_reducible refine (HFI.out _).mono ?_; rintro e8 w8 ⟨rfl, hb8⟩; obtain ⟨hc8, hf8⟩ := bcell hb8; have hB8 : Below w.heap.size w w8 := (below_then (by first | (go_grown; done) | (repeat (first | (with_reducible assumption) | (with_reducible exact Below.refl _ _) | (with_reducible refine below_drewN' ?_ _) | (with_reducible refine Below.drew ?_) | ((with_reducible refine Below.alloc ?_ ?_ _); rotate_left; focus (first | (simp; done) | (simp; omega) | omega)) | ((with_reducible refine Below.setCell ?_ ?_ _); rotate_left; focus (first | (simp; done) | (simp; omega) | omega))))) (by first | omega | (simp; done) | (simp; omega)) hb8); have hz8a : w.heap.size < w8.heap.size := (by have := hb8.size; first | omega | (simp at this; omega)))
      (go_at_call 67; refine (HL.out _ (by (repeat (first | (with_reducible assumption) | (with_reducible exact Below.refl _ _) | (with_reducible refine below_drewN' ?_ _) | (with_reducible refine Below.drew ?_) | ((with_reducible refine Below.alloc ?_ ?_ _); rotate_left; focus (first | (simp; done) | (simp; omega) | omega)) | ((with_reducible refine Below.setCell ?_ ?_ _); rotate_left; focus (first | (simp; done) | (simp; omega) | omega)))))).mono ?_; rintro e9 w9 ⟨rfl, hb9⟩; obtain ⟨hc9, hf9⟩ := bcell hb9; have hB9 : Below w.heap.size w w9 := (below_then (by first | (go_grown; done) | (repeat (first | (with_reducible assumption) | (with_reducible exact Below.refl _ _) | (with_reducible refine below_drewN' ?_ _) | (with_reducible refine Below.drew ?_) | ((with_reducible refine Below.alloc ?_ ?_ _); rotate_left; focus (first | (simp; done) | (simp; omega) | omega)) | ((with_reducible refine Below.setCell ?_ ?_ _); rotate_left; focus (first | (simp; done) | (simp; omega) | omega))))) (by first | omega | (simp; done) | (simp; omega)) hb9); have hz9a : w.heap.size < w9.heap.size := (by have := hb9.size; first | omega | (simp at this; omega)))
      go_wp2_with fail
      go_ret
      exact ⟨ret_bool (by rw [HX.out, HP2.out]; rfl), by (repeat (first | (with_reducible assumption) | (with_reducible exact Below.refl _ _) | (with_reducible refine below_drewN' ?_ _) | (with_reducible refine Below.drew ?_) | ((with_reducible refine Below.alloc ?_ ?_ _); rotate_left; focus (first | (simp; done) | (simp; omega) | omega)) | ((with_reducible refine Below.setCell ?_ ?_ _); rotate_left; focus (first | (simp; done) | (simp; omega) | omega))))⟩
  · have hk1' : (kind == 1) = false := by simpa using hk1
    have hk1'' : (kind != 1) = true := by simpa using hk1
    have HX := Lib.hid (fam_no (s := s) (kind := kind) (p := p) (k := k) (g := g) (col := col) (n1 := n1) (n2 := n2) (sz := sz) (lv := lv) (.inr (.inr (.inr (.inr ⟨hk1, hk2⟩)))))
    clear h2 h3
    go_enter Try.func20, Try.ntmps20
    go_wp2_with first | (go_at_call 65; refine (HNM.out _).mono ?_; rintro e w' ⟨rfl, rfl⟩) | (go_at_call 66; with_reducible refine (HFI.out _).mono ?_; rintro e8 w8 ⟨rfl, hb8⟩; obtain ⟨hc8, hf8⟩ := bcell hb8; have hB8 : Below w.heap.size w w8 := (below_then (by first | (go_grown; done) | (repeat (first | (with_reducible assumption) | (with_reducible exact Below.refl _ _) | (with_reducible refine below_drewN' ?_ _) | (with_reducible refine Below.drew ?_) | ((with_reducible refine Below.alloc ?_ ?_ _); rotate_left; focus (first | (simp; done) | (simp; omega) | omega)) | ((with_reducible refine Below.setCell ?_ ?_ _); rotate_left; focus (first | (simp; done) | (simp; omega) | omega))))) (by first | omega | (simp; done) | (simp; omega)) hb8); have hz8a : w.heap.size < w8.heap.size := (by have := hb8.size; first | omega | (simp at this; omega)))
    (go_at_call 67; refine (HL.out _ (by (repeat (first | (with_reducible assumption) | (with_reducible exact Below.refl _ _) | (with_reducible refine below_drewN' ?_ _) | (with_reducible refine Below.drew ?_) | ((with_reducible refine Below.alloc ?_ ?_ _); rotate_left; focus (first | (simp; done) | (simp; omega) | omega)) | ((with_reducible refine Below.setCell ?_ ?_ _); rotate_left; focus (first | (simp; done) | (simp; omega) | omega)))))).mono ?_; rintro e9 w9 ⟨rfl, hb9⟩; obtain ⟨hc9, hf9⟩ := bcell hb9; have hB9 : Below w.heap.size w w9 := (below_then (by first | (go_grown; done) | (repeat (first | (with_reducible assumption) | (with_reducible exact Below.refl _ _) | (with_reducible refine below_drewN' ?_ _) | (with_reducible refine Below.drew ?_) | ((with_reducible refine Below.alloc ?_ ?_ _); rotate_left; focus (first | (simp; done) | (simp; omega) | omega)) | ((with_reducible refine Below.setCell ?_ ?_ _); rotate_left; focus (first | (simp; done) | (simp; omega) | omega))))) (by first | omega | (simp; done) | (simp; omega)) hb9); have hz9a : w.heap.size < w9.heap.size := (by have := hb9.size; first | omega | (simp at this; omega)))
    go_wp2_with fail
    go_ret
    exact ⟨ret_bool HX.out.symm, by (repeat (first | (with_reducible assumption) | (with_reducible exact Below.refl _ _) | (with_reducible refine below_drewN' ?_ _) | (with_reducible refine Below.drew ?_) | ((with_reducible refine Below.alloc ?_ ?_ _); rotate_left; focus (first | (simp; done) | (simp; omega) | omega)) | ((with_reducible refine Below.setCell ?_ ?_ _); rotate_left; focus (first | (simp; done) | (simp; omega) | omega))))⟩
end Go.Proofs.Ytbgcbjfimjfbpaa
