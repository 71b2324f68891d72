/-
  Contracts of chapter 4: which codes are valid; field sizes and widths.
-/
import Derived.Test.YtbgcbjfimjfbpaaC02H
import Derived.Test.YtbgcbjfimjfbpaaRegion
namespace Go.Proofs.Ytbgcbjfimjfbpaa
set_option linter.unusedSimpArgs false
open Go.RowKit

theorem same_below4 {P : Program} {f : FuncId} {args : Array Value} {W : World} {v : Value}
    (h : Calls P f args W fun e w' => e = .returned v ∧ W = w') : Calls P f args W fun e w'' => e = .returned v ∧ Below W.heap.size W w'' :=
  h.mono fun _ _ ⟨h1, h2⟩ => ⟨h1, h2 ▸ Below.refl _ _⟩
theorem blk5 {w : World} {b t : Nat} {x0 x1 x2 x3 x4 : Value} (h : w.heap[b]? = some (.cells #[x0, x1, x2, x3, x4] t (0, 0))) :
    w.cell? ⟨b, 0, none⟩ = some x0 ∧ w.cell? ⟨b, 1, none⟩ = some x1 ∧ w.cell? ⟨b, 2, none⟩ = some x2 ∧ w.cell? ⟨b, 3, none⟩ = some x3 ∧ w.cell? ⟨b, 4, none⟩ = some x4 ∧ ∀ k, w.frozen? ⟨b, k, none⟩ = false := by
  refine ⟨?_, ?_, ?_, ?_, ?_, fun k => ?_⟩ <;> simp [World.cell?, World.frozen?, h]
theorem blk6 {w : World} {b t : Nat} {x0 x1 x2 x3 x4 x5 : Value} (h : w.heap[b]? = some (.cells #[x0, x1, x2, x3, x4, x5] t (0, 0))) :
    w.cell? ⟨b, 0, none⟩ = some x0 ∧ w.cell? ⟨b, 1, none⟩ = some x1 ∧ w.cell? ⟨b, 2, none⟩ = some x2 ∧ w.cell? ⟨b, 3, none⟩ = some x3 ∧ w.cell? ⟨b, 4, none⟩ = some x4 ∧ w.cell? ⟨b, 5, none⟩ = some x5 ∧ ∀ k, w.frozen? ⟨b, k, none⟩ = false := by
  refine ⟨?_, ?_, ?_, ?_, ?_, ?_, fun k => ?_⟩ <;> simp [World.cell?, World.frozen?, h]
theorem res5' {w : World} {b t : Nat} {a0 a1 a2 a3 a4 a5 : Value} (h : w.heap[b]? = some (.cells #[a0, a1, a2, a3, a4, a5] t (0, 0))) (x0 x1 x2 x3 x4 : Value) :
    (((((w.setCell ⟨b, 0, none⟩ x0).setCell ⟨b, 1, none⟩ x1).setCell ⟨b, 2, none⟩ x2).setCell ⟨b, 3, none⟩ x3).setCell ⟨b, 4, none⟩ x4).heap[b]? = some (.cells #[x0, x1, x2, x3, x4, a5] t (0, 0)) := by
  have h0 := blk3_set (k := 0) (u := x0) h
  have h1 := blk3_set (k := 1) (u := x1) h0
  have h2 := blk3_set (k := 2) (u := x2) h1
  have h3 := blk3_set (k := 3) (u := x3) h2
  have h4 := blk3_set (k := 4) (u := x4) h3
  simpa using h4
/-- Five stores into a block of five cells, read back. -/
theorem res5 {w : World} {b t : Nat} {a0 a1 a2 a3 a4 : Value} (h : w.heap[b]? = some (.cells #[a0, a1, a2, a3, a4] t (0, 0))) (x0 x1 x2 x3 x4 : Value) :
    (((((w.setCell ⟨b, 0, none⟩ x0).setCell ⟨b, 1, none⟩ x1).setCell ⟨b, 2, none⟩ x2).setCell ⟨b, 3, none⟩ x3).setCell ⟨b, 4, none⟩ x4).heap[b]? = some (.cells #[x0, x1, x2, x3, x4] t (0, 0)) := by
  have h0 := blk3_set (k := 0) (u := x0) h
  have h1 := blk3_set (k := 1) (u := x1) h0
  have h2 := blk3_set (k := 2) (u := x2) h1
  have h3 := blk3_set (k := 3) (u := x3) h2
  have h4 := blk3_set (k := 4) (u := x4) h3
  simpa using h4
theorem res6 {w : World} {b t : Nat} {a0 a1 a2 a3 a4 a5 : Value} (h : w.heap[b]? = some (.cells #[a0, a1, a2, a3, a4, a5] t (0, 0))) (x0 x1 x2 x3 x4 x5 : Value) :
    ((((((w.setCell ⟨b, 0, none⟩ x0).setCell ⟨b, 1, none⟩ x1).setCell ⟨b, 2, none⟩ x2).setCell ⟨b, 3, none⟩ x3).setCell ⟨b, 4, none⟩ x4).setCell ⟨b, 5, none⟩ x5).heap[b]? = some (.cells #[x0, x1, x2, x3, x4, x5] t (0, 0)) := by
  have h5 := blk3_set (k := 5) (u := x5) (res5' h x0 x1 x2 x3 x4)
  simpa using h5
/-- Is a code valid? -/
def codeB (p k g len chk : Int) : Bool := inR chk 1 64 && inR len (chk + 1) 255 && fieldB p k g && decide (len < fsize p k)
theorem codeB_field {p k g len chk : Int} (h : codeB p k g len chk = true) : fieldB p k g = true := by
  simp only [codeB, Bool.and_eq_true] at h; exact h.1.2
/-- A value and a bool are returned; old memory is left alone. -/
def TupB (b : Bool) (w w' : World) (e : Ending) : Prop := ∃ v, e = .returned (.tuple #[v, .bool b]) ∧ Below w.heap.size w w'
set_option maxRecDepth 50000 in
set_option maxHeartbeats 4000000 in
theorem coder_any (p k g len chk : Int) (w : World) :
    Calls Try.prog 102 #[.agg #[.int .i64 p, .int .i64 k, .int .i64 g, .int .i64 len, .int .i64 chk]] w fun e w' => TupB (codeB p k g len chk) w w' e := by
  unfold codeB
  cases h1 : inR chk 1 64
  · go_enter Try.func102, Try.ntmps102
    go_wp2_with (go_at_call 60; refine (inRange_any _ _ _ _).mono ?_; rintro e w' ⟨rfl, rfl⟩)
    go_returns
    exact ⟨_, by simp; rfl, by (repeat (first | (with_reducible assumption) | (with_reducible exact Below.refl _ _) | (with_reducible refine below_drewN' ?_ _) | (with_reducible refine Below.drew ?_) | ((with_reducible refine Below.alloc ?_ ?_ _); rotate_left; focus (first | (simp; done) | (simp; omega) | omega)) | ((with_reducible refine Below.setCell ?_ ?_ _); rotate_left; focus (first | (simp; done) | (simp; omega) | omega))))⟩
  have b1 := inR_true h1
  cases h2 : inR len (chk + 1) 255
  · go_enter Try.func102, Try.ntmps102
    go_wp2_with (go_at_call 60; refine (inRange_any _ _ _ _).mono ?_; rintro e w' ⟨rfl, rfl⟩)
    go_returns
    exact ⟨_, by simp; rfl, by (repeat (first | (with_reducible assumption) | (with_reducible exact Below.refl _ _) | (with_reducible refine below_drewN' ?_ _) | (with_reducible refine Below.drew ?_) | ((with_reducible refine Below.alloc ?_ ?_ _); rotate_left; focus (first | (simp; done) | (simp; omega) | omega)) | ((with_reducible refine Below.setCell ?_ ?_ _); rotate_left; focus (first | (simp; done) | (simp; omega) | omega))))⟩
  cases h3 : fieldB p k g
  · have HC := Lib.hid (fun w => calc_no p k g w h3)
    clear h3
    go_enter Try.func102, Try.ntmps102
    go_wp2_with first | (go_at_call 60; refine (inRange_any _ _ _ _).mono ?_; rintro e w' ⟨rfl, rfl⟩) | (go_at_call 70; with_reducible refine (HC.out _).mono ?_; rintro e1 w1 ⟨v1, rfl, hb1⟩; obtain ⟨hc1, hf1⟩ := bcell hb1; have hB1 : Below w.heap.size w w1 := (below_then (by first | (go_grown; done) | (repeat (first | (with_reducible assumption) | (with_reducible exact Below.refl _ _) | (with_reducible refine below_drewN' ?_ _) | (with_reducible refine Below.drew ?_) | ((with_reducible refine Below.alloc ?_ ?_ _); rotate_left; focus (first | (simp; done) | (simp; omega) | omega)) | ((with_reducible refine Below.setCell ?_ ?_ _); rotate_left; focus (first | (simp; done) | (simp; omega) | omega))))) (by first | omega | (simp; done) | (simp; omega)) hb1); have hz1a : w.heap.size < w1.heap.size := (by have := hb1.size; first | omega | (simp at this; omega)))
    go_quiet (fail)
    go_wp2_with fail
    go_returns
    exact ⟨_, by simp; rfl, by (repeat (first | (with_reducible assumption) | (with_reducible exact Below.refl _ _) | (with_reducible refine below_drewN' ?_ _) | (with_reducible refine Below.drew ?_) | ((with_reducible refine Below.alloc ?_ ?_ _); rotate_left; focus (first | (simp; done) | (simp; omega) | omega)) | ((with_reducible refine Below.setCell ?_ ?_ _); rotate_left; focus (first | (simp; done) | (simp; omega) | omega))))⟩
  · have HC := Lib.hid (fun w => calc_yes p k g w h3)
    clear h3
    go_enter Try.func102, Try.ntmps102
    go_wp2_with first | (go_at_call 60; refine (inRange_any _ _ _ _).mono ?_; rintro e w' ⟨rfl, rfl⟩) | (go_at_call 70; with_reducible refine (HC.out _).mono ?_; rintro e1 w1 ⟨g1, S, rfl, hS, hC1, hg1, hb1⟩; obtain ⟨hc1, hf1⟩ := bcell hb1; have hB1 : Below w.heap.size w w1 := (below_then (by first | (go_grown; done) | (repeat (first | (with_reducible assumption) | (with_reducible exact Below.refl _ _) | (with_reducible refine below_drewN' ?_ _) | (with_reducible refine Below.drew ?_) | ((with_reducible refine Below.alloc ?_ ?_ _); rotate_left; focus (first | (simp; done) | (simp; omega) | omega)) | ((with_reducible refine Below.setCell ?_ ?_ _); rotate_left; focus (first | (simp; done) | (simp; omega) | omega))))) (by first | omega | (simp; done) | (simp; omega)) hb1); have hz1a : w.heap.size < w1.heap.size := (by have := hb1.size; first | omega | (simp at this; omega)))
    have hcc := hC1.c1
    have hg2 := hC1.lt
    have hfa1 : ∀ w, (Instr.fieldAt 115 (.pointer (some ⟨g1, 0, none⟩)) 1).run Try.prog w = .ok (.pointer (some ⟨g1, 1, none⟩)) w := fun _ => by kernel_rfl
    have HS := Lib.hid hS
    clear hS
    by_cases hlt : len < S
    · have hd : decide ((S : Int) ≤ len) = false := decide_eq_false (by omega)
      go_quiet (fail)
      go_wp2_with fail
      go_returns
      exact ⟨_, by rw [HS.out]; simp [hlt]; rfl, by (repeat (first | (with_reducible assumption) | (with_reducible exact Below.refl _ _) | (with_reducible refine below_drewN' ?_ _) | (with_reducible refine Below.drew ?_) | ((with_reducible refine Below.alloc ?_ ?_ _); rotate_left; focus (first | (simp; done) | (simp; omega) | omega)) | ((with_reducible refine Below.setCell ?_ ?_ _); rotate_left; focus (first | (simp; done) | (simp; omega) | omega))))⟩
    · have hd : decide ((S : Int) ≤ len) = true := decide_eq_true (by omega)
      go_quiet (fail)
      go_wp2_with fail
      go_returns
      exact ⟨_, by rw [HS.out]; simp [hlt]; rfl, by (repeat (first | (with_reducible assumption) | (with_reducible exact Below.refl _ _) | (with_reducible refine below_drewN' ?_ _) | (with_reducible refine Below.drew ?_) | ((with_reducible refine Below.alloc ?_ ?_ _); rotate_left; focus (first | (simp; done) | (simp; omega) | omega)) | ((with_reducible refine Below.setCell ?_ ?_ _); rotate_left; focus (first | (simp; done) | (simp; omega) | omega))))⟩
theorem IsCode_any (p k g len chk : Int) (w : World) :
    Calls Try.prog 73 #[.agg #[.int .i64 p, .int .i64 k, .int .i64 g, .int .i64 len, .int .i64 chk]] w fun e w' => e = .returned (.bool (codeB p k g len chk)) ∧ Below w.heap.size w w' := by
  have HC : Hid (∀ w, Calls Try.prog 102 #[.agg #[.int .i64 p, .int .i64 k, .int .i64 g, .int .i64 len, .int .i64 chk]] w fun e w' => ∃ v, e = .returned (.tuple #[v, .bool (codeB p k g len chk)]) ∧ Below w.heap.size w w') := Lib.hid (fun w => coder_any p k g len chk w)
  generalize codeB p k g len chk = F at HC ⊢
  go_enter Try.func73, Try.ntmps73
  go_wp2_with (go_at_call 102; with_reducible refine (HC.out _).mono ?_; rintro e1 w1 ⟨v1, rfl, hb1⟩; obtain ⟨hc1, hf1⟩ := bcell hb1; have hB1 : Below w.heap.size w w1 := (below_then (by first | (go_grown; done) | (repeat (first | (with_reducible assumption) | (with_reducible exact Below.refl _ _) | (with_reducible refine below_drewN' ?_ _) | (with_reducible refine Below.drew ?_) | ((with_reducible refine Below.alloc ?_ ?_ _); rotate_left; focus (first | (simp; done) | (simp; omega) | omega)) | ((with_reducible refine Below.setCell ?_ ?_ _); rotate_left; focus (first | (simp; done) | (simp; omega) | omega))))) (by first | omega | (simp; done) | (simp; omega)) hb1); have hz1a : w.heap.size < w1.heap.size := (by have := hb1.size; first | omega | (simp at this; omega)))
  go_ret
  exact ⟨rfl, by (repeat (first | (with_reducible assumption) | (with_reducible exact Below.refl _ _) | (with_reducible refine below_drewN' ?_ _) | (with_reducible refine Below.drew ?_) | ((with_reducible refine Below.alloc ?_ ?_ _); rotate_left; focus (first | (simp; done) | (simp; omega) | omega)) | ((with_reducible refine Below.setCell ?_ ?_ _); rotate_left; focus (first | (simp; done) | (simp; omega) | omega))))⟩
theorem l02Size_any (p k g : Int) (w : World) (h : fieldB p k g = true) :
    Calls Try.prog 88 #[.agg #[.int .i64 p, .int .i64 k, .int .i64 g]] w fun e w' => e = .returned (.int .i64 (fsize p k)) ∧ Below w.heap.size w w' := by
  by_cases hk : k = 1
  · subst hk; exact l02Size_one p g w
  · rw [fieldB_two hk] at h
    simp only [Bool.and_eq_true, fieldT] at h
    have b := inR_true h.2.1.1
    obtain ⟨K, rfl⟩ := Int.eq_ofNat_of_zero_le (show 0 ≤ k by omega)
    have := l02Size_two p g K w (by omega) (by omega)
    unfold fsize
    rw [if_neg hk, Int.toNat_natCast]
    simpa using this
set_option maxHeartbeats 4000000 in
theorem sIsCode_any (p k g len chk : Int) (w : World) :
    Calls Try.prog 89 #[.agg #[.int .i64 p, .int .i64 k, .int .i64 g, .int .i64 len, .int .i64 chk]] w fun e w' => e = .returned (.bool (codeB p k g len chk)) ∧ Below w.heap.size w w' := by
  have HF := Lib.hid (fun w => sIsField_any p k g w)
  unfold codeB
  cases h3 : fieldB p k g
  · rw [h3] at HF
    clear h3
    go_enter Try.func89, Try.ntmps89
    go_wp2_with (go_at_call 66; with_reducible refine (HF.out _).mono ?_; rintro e1 w1 ⟨rfl, hb1⟩; obtain ⟨hc1, hf1⟩ := bcell hb1; have hB1 : Below w.heap.size w w1 := (below_then (by first | (go_grown; done) | (repeat (first | (with_reducible assumption) | (with_reducible exact Below.refl _ _) | (with_reducible refine below_drewN' ?_ _) | (with_reducible refine Below.drew ?_) | ((with_reducible refine Below.alloc ?_ ?_ _); rotate_left; focus (first | (simp; done) | (simp; omega) | omega)) | ((with_reducible refine Below.setCell ?_ ?_ _); rotate_left; focus (first | (simp; done) | (simp; omega) | omega))))) (by first | omega | (simp; done) | (simp; omega)) hb1); have hz1a : w.heap.size < w1.heap.size := (by have := hb1.size; first | omega | (simp at this; omega)))
    go_ret
    exact ⟨ret_bool (by simp), by (repeat (first | (with_reducible assumption) | (with_reducible exact Below.refl _ _) | (with_reducible refine below_drewN' ?_ _) | (with_reducible refine Below.drew ?_) | ((with_reducible refine Below.alloc ?_ ?_ _); rotate_left; focus (first | (simp; done) | (simp; omega) | omega)) | ((with_reducible refine Below.setCell ?_ ?_ _); rotate_left; focus (first | (simp; done) | (simp; omega) | omega))))⟩
  have HS := Lib.hid (fun w => l02Size_any p k g w h3)
  rw [h3] at HF
  clear h3
  generalize fsize p k = S at HS ⊢
  cases h1 : inR chk 1 64
  · go_enter Try.func89, Try.ntmps89
    go_wp2_with first | (go_at_call 47; refine (l01In_any _ _ _ _).mono ?_; rintro e w' ⟨rfl, rfl⟩) | (go_at_call 66; with_reducible refine (HF.out _).mono ?_; rintro e1 w1 ⟨rfl, hb1⟩; obtain ⟨hc1, hf1⟩ := bcell hb1; have hB1 : Below w.heap.size w w1 := (below_then (by first | (go_grown; done) | (repeat (first | (with_reducible assumption) | (with_reducible exact Below.refl _ _) | (with_reducible refine below_drewN' ?_ _) | (with_reducible refine Below.drew ?_) | ((with_reducible refine Below.alloc ?_ ?_ _); rotate_left; focus (first | (simp; done) | (simp; omega) | omega)) | ((with_reducible refine Below.setCell ?_ ?_ _); rotate_left; focus (first | (simp; done) | (simp; omega) | omega))))) (by first | omega | (simp; done) | (simp; omega)) hb1); have hz1a : w.heap.size < w1.heap.size := (by have := hb1.size; first | omega | (simp at this; omega)))
    go_ret
    exact ⟨ret_bool (by simp), by (repeat (first | (with_reducible assumption) | (with_reducible exact Below.refl _ _) | (with_reducible refine below_drewN' ?_ _) | (with_reducible refine Below.drew ?_) | ((with_reducible refine Below.alloc ?_ ?_ _); rotate_left; focus (first | (simp; done) | (simp; omega) | omega)) | ((with_reducible refine Below.setCell ?_ ?_ _); rotate_left; focus (first | (simp; done) | (simp; omega) | omega))))⟩
  have b1 := inR_true h1
  have hw : IntKind.i64.wrap (chk + 1) = chk + 1 := wr64 (by omega)
  cases h2 : inR len (chk + 1) 255
  · go_enter Try.func89, Try.ntmps89
    go_wp2_with first | (go_at_call 47; refine (l01In_any _ _ _ _).mono ?_; rintro e w' ⟨rfl, rfl⟩) | (go_at_call 66; with_reducible refine (HF.out _).mono ?_; rintro e1 w1 ⟨rfl, hb1⟩; obtain ⟨hc1, hf1⟩ := bcell hb1; have hB1 : Below w.heap.size w w1 := (below_then (by first | (go_grown; done) | (repeat (first | (with_reducible assumption) | (with_reducible exact Below.refl _ _) | (with_reducible refine below_drewN' ?_ _) | (with_reducible refine Below.drew ?_) | ((with_reducible refine Below.alloc ?_ ?_ _); rotate_left; focus (first | (simp; done) | (simp; omega) | omega)) | ((with_reducible refine Below.setCell ?_ ?_ _); rotate_left; focus (first | (simp; done) | (simp; omega) | omega))))) (by first | omega | (simp; done) | (simp; omega)) hb1); have hz1a : w.heap.size < w1.heap.size := (by have := hb1.size; first | omega | (simp at this; omega)))
    refine wp_region_qat [] 15 [] (by kernel_rfl) (by kernel_rfl) ?_
    intro hbc
    simp only [List.take_succ_cons, List.take_zero, List.drop_succ_cons, List.drop_zero]
    repeat (first
      | refine wpQ_pass rfl ?_
      | (refine wpQ_step rfl (fun K hK => ?_)
         go_simp
         first
           | (refine hK _ ?_; clear hK K)
           | (apply Exists.intro
              refine ⟨fun z => ?_, ?_⟩
              focus (first | (go_at_call 47; exact same_below4 (l01In_any _ _ _ _)) | (go_at_call 88; exact HS.out _))
              refine hK _ ?_
              clear hK K)))
    refine wpQ_nil ⟨?_, ?_⟩
    · exact rfl
    intro  w2 hb2 hF2
    clear hbc
    obtain ⟨hc2, hf2⟩ := bcell hb2
    have hB2 : Below w.heap.size w w2 := below_then (by first | (go_grown; done) | (repeat (first | (with_reducible assumption) | (with_reducible exact Below.refl _ _) | (with_reducible refine below_drewN' ?_ _) | (with_reducible refine Below.drew ?_) | ((with_reducible refine Below.alloc ?_ ?_ _); rotate_left; focus (first | (simp; done) | (simp; omega) | omega)) | ((with_reducible refine Below.setCell ?_ ?_ _); rotate_left; focus (first | (simp; done) | (simp; omega) | omega))))) (by first | (simp; done) | (simp; omega) | omega) hb2
    have hz2a : w.heap.size < w2.heap.size := (by have := hb2.size; first | omega | (simp at this; omega))
    clear hF2
    try simp only [Act.put, List.setIfInBounds_toArray, List.set_cons_succ, List.set_cons_zero]
    go_wp2_with fail
    go_ret
    exact ⟨ret_bool (by simp), by (repeat (first | (with_reducible assumption) | (with_reducible exact Below.refl _ _) | (with_reducible refine below_drewN' ?_ _) | (with_reducible refine Below.drew ?_) | ((with_reducible refine Below.alloc ?_ ?_ _); rotate_left; focus (first | (simp; done) | (simp; omega) | omega)) | ((with_reducible refine Below.setCell ?_ ?_ _); rotate_left; focus (first | (simp; done) | (simp; omega) | omega))))⟩
  · by_cases hlt : len < S
    · have hd : decide (len < S) = true := decide_eq_true hlt
      go_enter Try.func89, Try.ntmps89
      go_wp2_with first | (go_at_call 47; refine (l01In_any _ _ _ _).mono ?_; rintro e w' ⟨rfl, rfl⟩) | (go_at_call 66; with_reducible refine (HF.out _).mono ?_; rintro e1 w1 ⟨rfl, hb1⟩; obtain ⟨hc1, hf1⟩ := bcell hb1; have hB1 : Below w.heap.size w w1 := (below_then (by first | (go_grown; done) | (repeat (first | (with_reducible assumption) | (with_reducible exact Below.refl _ _) | (with_reducible refine below_drewN' ?_ _) | (with_reducible refine Below.drew ?_) | ((with_reducible refine Below.alloc ?_ ?_ _); rotate_left; focus (first | (simp; done) | (simp; omega) | omega)) | ((with_reducible refine Below.setCell ?_ ?_ _); rotate_left; focus (first | (simp; done) | (simp; omega) | omega))))) (by first | omega | (simp; done) | (simp; omega)) hb1); have hz1a : w.heap.size < w1.heap.size := (by have := hb1.size; first | omega | (simp at this; omega)))
      refine wp_region_qat [] 15 [] (by kernel_rfl) (by kernel_rfl) ?_
      intro hbc
      simp only [List.take_succ_cons, List.take_zero, List.drop_succ_cons, List.drop_zero]
      repeat (first
        | refine wpQ_pass rfl ?_
        | (refine wpQ_step rfl (fun K hK => ?_)
           go_simp
           first
             | (refine hK _ ?_; clear hK K)
             | (apply Exists.intro
                refine ⟨fun z => ?_, ?_⟩
                focus (first | (go_at_call 47; exact same_below4 (l01In_any _ _ _ _)) | (go_at_call 88; exact HS.out _))
                refine hK _ ?_
                clear hK K)))
      refine wpQ_nil ⟨?_, ?_⟩
      · exact rfl
      intro  w2 hb2 hF2
      clear hbc
      obtain ⟨hc2, hf2⟩ := bcell hb2
      have hB2 : Below w.heap.size w w2 := below_then (by first | (go_grown; done) | (repeat (first | (with_reducible assumption) | (with_reducible exact Below.refl _ _) | (with_reducible refine below_drewN' ?_ _) | (with_reducible refine Below.drew ?_) | ((with_reducible refine Below.alloc ?_ ?_ _); rotate_left; focus (first | (simp; done) | (simp; omega) | omega)) | ((with_reducible refine Below.setCell ?_ ?_ _); rotate_left; focus (first | (simp; done) | (simp; omega) | omega))))) (by first | (simp; done) | (simp; omega) | omega) hb2
      have hz2a : w.heap.size < w2.heap.size := (by have := hb2.size; first | omega | (simp at this; omega))
      clear hF2
      try simp only [Act.put, List.setIfInBounds_toArray, List.set_cons_succ, List.set_cons_zero]
      go_wp2_with fail
      go_ret
      exact ⟨ret_bool (by simp [hlt]), by (repeat (first | (with_reducible assumption) | (with_reducible exact Below.refl _ _) | (with_reducible refine below_drewN' ?_ _) | (with_reducible refine Below.drew ?_) | ((with_reducible refine Below.alloc ?_ ?_ _); rotate_left; focus (first | (simp; done) | (simp; omega) | omega)) | ((with_reducible refine Below.setCell ?_ ?_ _); rotate_left; focus (first | (simp; done) | (simp; omega) | omega))))⟩
    · have hd : decide (len < S) = false := decide_eq_false hlt
      go_enter Try.func89, Try.ntmps89
      go_wp2_with first | (go_at_call 47; refine (l01In_any _ _ _ _).mono ?_; rintro e w' ⟨rfl, rfl⟩) | (go_at_call 66; with_reducible refine (HF.out _).mono ?_; rintro e1 w1 ⟨rfl, hb1⟩; obtain ⟨hc1, hf1⟩ := bcell hb1; have hB1 : Below w.heap.size w w1 := (below_then (by first | (go_grown; done) | (repeat (first | (with_reducible assumption) | (with_reducible exact Below.refl _ _) | (with_reducible refine below_drewN' ?_ _) | (with_reducible refine Below.drew ?_) | ((with_reducible refine Below.alloc ?_ ?_ _); rotate_left; focus (first | (simp; done) | (simp; omega) | omega)) | ((with_reducible refine Below.setCell ?_ ?_ _); rotate_left; focus (first | (simp; done) | (simp; omega) | omega))))) (by first | omega | (simp; done) | (simp; omega)) hb1); have hz1a : w.heap.size < w1.heap.size := (by have := hb1.size; first | omega | (simp at this; omega)))
      refine wp_region_qat [] 15 [] (by kernel_rfl) (by kernel_rfl) ?_
      intro hbc
      simp only [List.take_succ_cons, List.take_zero, List.drop_succ_cons, List.drop_zero]
      repeat (first
        | refine wpQ_pass rfl ?_
        | (refine wpQ_step rfl (fun K hK => ?_)
           go_simp
           first
             | (refine hK _ ?_; clear hK K)
             | (apply Exists.intro
                refine ⟨fun z => ?_, ?_⟩
                focus (first | (go_at_call 47; exact same_below4 (l01In_any _ _ _ _)) | (go_at_call 88; exact HS.out _))
                refine hK _ ?_
                clear hK K)))
      refine wpQ_nil ⟨?_, ?_⟩
      · exact rfl
      intro  w2 hb2 hF2
      clear hbc
      obtain ⟨hc2, hf2⟩ := bcell hb2
      have hB2 : Below w.heap.size w w2 := below_then (by first | (go_grown; done) | (repeat (first | (with_reducible assumption) | (with_reducible exact Below.refl _ _) | (with_reducible refine below_drewN' ?_ _) | (with_reducible refine Below.drew ?_) | ((with_reducible refine Below.alloc ?_ ?_ _); rotate_left; focus (first | (simp; done) | (simp; omega) | omega)) | ((with_reducible refine Below.setCell ?_ ?_ _); rotate_left; focus (first | (simp; done) | (simp; omega) | omega))))) (by first | (simp; done) | (simp; omega) | omega) hb2
      have hz2a : w.heap.size < w2.heap.size := (by have := hb2.size; first | omega | (simp at this; omega))
      clear hF2
      try simp only [Act.put, List.setIfInBounds_toArray, List.set_cons_succ, List.set_cons_zero]
      go_wp2_with fail
      go_ret
      exact ⟨ret_bool (by simp [hlt]), by (repeat (first | (with_reducible assumption) | (with_reducible exact Below.refl _ _) | (with_reducible refine below_drewN' ?_ _) | (with_reducible refine Below.drew ?_) | ((with_reducible refine Below.alloc ?_ ?_ _); rotate_left; focus (first | (simp; done) | (simp; omega) | omega)) | ((with_reducible refine Below.setCell ?_ ?_ _); rotate_left; focus (first | (simp; done) | (simp; omega) | omega))))⟩
/-- The width of a field of S elements: the greatest n with 2^n at most S. -/
def widV (S : Int) : Int := (Nat.log2 S.toNat : Nat)
theorem log2_of {S n : Nat} (h1 : 2 ^ n ≤ S) (h2 : S < 2 ^ (n + 1)) : Nat.log2 S = n := by
  have hS : S ≠ 0 := by have := Nat.two_pow_pos n; omega
  exact (Nat.log2_eq_iff hS).2 ⟨h1, h2⟩
theorem pow_two_int (n : Nat) : (2 : Int) * 2 ^ n = ((2 ^ (n + 1) : Nat) : Int) := by
  rw [Nat.pow_succ]; simp [Int.mul_comm]
set_option maxHeartbeats 1000000 in
theorem width_any (b S : Nat) (bin : Bool) (w : World) (hC : CalcAt w b S bin) (hS : 1 ≤ S) (hS2 : S ≤ 1021) :
    Calls Try.prog 71 #[.pointer (some ⟨b, 0, none⟩)] w fun e w' => e = .returned (.int .i64 (widV S)) ∧ Below w.heap.size w w' := by
  have hcc := hC.c1
  have hfa1 : ∀ w, (Instr.fieldAt 115 (.pointer (some ⟨b, 0, none⟩)) 1).run Try.prog w = .ok (.pointer (some ⟨b, 1, none⟩)) w := fun _ => by kernel_rfl
  clear hC
  go_enter Try.func71, Try.ntmps71
  go_wp2_with fail
  go_loopw [3] (fun q wr => ∃ n m : Nat, q = .int .i64 n ∧ n ≤ 10 ∧ Hid (2 ^ n ≤ S) ∧ Hid (wr = w.drewN m)) (fun q _ => 12 - (intOf q).toNat)
  case atStart => exact ⟨0, 0, rfl, by omega, Lib.hid hS, Lib.hid rfl⟩
  case round =>
    obtain ⟨n, m, rfl, hn, hle, hw⟩ := hrel
    have hcw : wr.cell? ⟨b, 1, none⟩ = some (.int .i64 S) := by rw [hw.out]; exact hcc
    have hn9 : n ≤ 9 := by
      rcases Nat.lt_or_ge n 10 with h | h
      · omega
      · have := hle.out
        have : 2 ^ 10 ≤ 2 ^ n := Nat.pow_le_pow_right (by decide) h
        omega
    have hpw := pow2_bd (k := n) (by omega)
    have hp2 := pow_two_int n
    have hpx := pow2_bd (k := n + 1) (by omega)
    have hpe : ((2 ^ (n + 1) : Nat) : Int) = (2 : Int) ^ (n + 1) := by simp
    have hwr : IntKind.i64.wrap (2 * (2 : Int) ^ n) = ((2 ^ (n + 1) : Nat) : Int) := by rw [hp2]; exact wr64 (by omega)
    clear hpx hpe
    by_cases hc : 2 ^ (n + 1) ≤ S
    · have HCC := Lib.hid hc
      have hci : ((2 ^ (n + 1) : Nat) : Int) ≤ (S : Int) := by omega
      rw [← hp2] at hci hwr
      have hd : decide ((2 : Int) * 2 ^ n ≤ S) = true := decide_eq_true hci
      clear hp2 hc hcc
      go_wp2_with fail
      go_quiet (fail)
      go_wp2_with fail
      go_roundw
      case rel => exact ⟨n + 1, _, by go_num, by omega, HCC, Lib.hid (by rw [hw.out]; exact drewN_two w m _)⟩
      case measure => simp [intOf]; omega
    · have HL := Lib.hid (log2_of hle.out (by omega : S < 2 ^ (n + 1)))
      have hci : ¬ ((2 ^ (n + 1) : Nat) : Int) ≤ (S : Int) := by omega
      rw [← hp2] at hci hwr
      have hd : decide ((2 : Int) * 2 ^ n ≤ S) = false := decide_eq_false hci
      clear hp2 hc hcc
      go_wp2_with fail
      go_quiet (fail)
      go_wp2_with fail
      go_ret
      exact ⟨ret_int (by unfold widV; rw [Int.toNat_natCast, HL.out]), by rw [hw.out]; exact below_drewN' (below_drewN' (Below.refl _ _) _) _⟩
set_option maxHeartbeats 1000000 in
theorem FieldWidth_any (p k g : Int) (w : World) (h : fieldB p k g = true) :
    Calls Try.prog 24 #[.agg #[.int .i64 p, .int .i64 k, .int .i64 g]] w fun e w' => e = .returned (.int .i64 (widV (fsize p k))) ∧ Below w.heap.size w w' := by
  have HC := Lib.hid (fun w => calc_yes p k g w h)
  obtain ⟨S0, hS0, h3, h4⟩ := fieldB_size h
  have HS0 := Lib.hid hS0
  clear h hS0
  go_enter Try.func24, Try.ntmps24
  go_wp2_with (go_at_call 70; with_reducible refine (HC.out _).mono ?_; rintro e1 w1 ⟨g1, S, rfl, hS, hC1, hg1, hb1⟩; obtain ⟨hc1, hf1⟩ := bcell hb1; have hB1 : Below w.heap.size w w1 := (below_then (by first | (go_grown; done) | (repeat (first | (with_reducible assumption) | (with_reducible exact Below.refl _ _) | (with_reducible refine below_drewN' ?_ _) | (with_reducible refine Below.drew ?_) | ((with_reducible refine Below.alloc ?_ ?_ _); rotate_left; focus (first | (simp; done) | (simp; omega) | omega)) | ((with_reducible refine Below.setCell ?_ ?_ _); rotate_left; focus (first | (simp; done) | (simp; omega) | omega))))) (by first | omega | (simp; done) | (simp; omega)) hb1); have hz1a : w.heap.size < w1.heap.size := (by have := hb1.size; first | omega | (simp at this; omega)))
  have hSS : S = S0 := by have := HS0.out; rw [hS] at this; omega
  subst hSS
  have HW := Lib.hid (fun w' (hb : Below w1.heap.size w1 w') => width_any g1 S _ w' (hC1.below hb hC1.lt) (by omega) h4)
  have HS := Lib.hid hS
  clear hS hC1
  go_wp2_with (go_at_call 71; go_call (HW.out _ (Below.refl _ _)) as e2 w2 ⟨rfl, hb2⟩; obtain ⟨hc2, hf2⟩ := bcell hb2; have hB2 : Below w.heap.size w w2 := (below_then (by first | (go_grown; done) | (repeat (first | (with_reducible assumption) | (with_reducible exact Below.refl _ _) | (with_reducible refine below_drewN' ?_ _) | (with_reducible refine Below.drew ?_) | ((with_reducible refine Below.alloc ?_ ?_ _); rotate_left; focus (first | (simp; done) | (simp; omega) | omega)) | ((with_reducible refine Below.setCell ?_ ?_ _); rotate_left; focus (first | (simp; done) | (simp; omega) | omega))))) (by first | omega | (simp; done) | (simp; omega)) hb2); have hz2a : w.heap.size < w2.heap.size := (by have := hb2.size; first | omega | (simp at this; omega)))
  go_ret
  exact ⟨ret_int (by rw [HS.out]), by (repeat (first | (with_reducible assumption) | (with_reducible exact Below.refl _ _) | (with_reducible refine below_drewN' ?_ _) | (with_reducible refine Below.drew ?_) | ((with_reducible refine Below.alloc ?_ ?_ _); rotate_left; focus (first | (simp; done) | (simp; omega) | omega)) | ((with_reducible refine Below.setCell ?_ ?_ _); rotate_left; focus (first | (simp; done) | (simp; omega) | omega))))⟩
set_option maxHeartbeats 1000000 in
theorem FieldSize_any (p k g : Int) (w : World) (h : fieldB p k g = true) :
    Calls Try.prog 91 #[.agg #[.int .i64 p, .int .i64 k, .int .i64 g]] w fun e w' => e = .returned (.int .i64 (fsize p k)) ∧ Below w.heap.size w w' := by
  have HC := Lib.hid (fun w => calc_yes p k g w h)
  clear h
  have hfa1 : ∀ (b : Nat) (w : World), (Instr.fieldAt 115 (.pointer (some ⟨b, 0, none⟩)) 1).run Try.prog w = .ok (.pointer (some ⟨b, 1, none⟩)) w := fun _ _ => by kernel_rfl
  go_enter Try.func91, Try.ntmps91
  go_wp2_with ((go_at_call 70; with_reducible refine (HC.out _).mono ?_; rintro e1 w1 ⟨g1, S, rfl, hS, hC1, hg1, hb1⟩; obtain ⟨hc1, hf1⟩ := bcell hb1; have hB1 : Below w.heap.size w w1 := (below_then (by first | (go_grown; done) | (repeat (first | (with_reducible assumption) | (with_reducible exact Below.refl _ _) | (with_reducible refine below_drewN' ?_ _) | (with_reducible refine Below.drew ?_) | ((with_reducible refine Below.alloc ?_ ?_ _); rotate_left; focus (first | (simp; done) | (simp; omega) | omega)) | ((with_reducible refine Below.setCell ?_ ?_ _); rotate_left; focus (first | (simp; done) | (simp; omega) | omega))))) (by first | omega | (simp; done) | (simp; omega)) hb1); have hz1a : w.heap.size < w1.heap.size := (by have := hb1.size; first | omega | (simp at this; omega))); have hcc := hC1.c1; have HS := Lib.hid hS; clear hS hC1)
  go_ret
  exact ⟨ret_int (by rw [HS.out]), by (repeat (first | (with_reducible assumption) | (with_reducible exact Below.refl _ _) | (with_reducible refine below_drewN' ?_ _) | (with_reducible refine Below.drew ?_) | ((with_reducible refine Below.alloc ?_ ?_ _); rotate_left; focus (first | (simp; done) | (simp; omega) | omega)) | ((with_reducible refine Below.setCell ?_ ?_ _); rotate_left; focus (first | (simp; done) | (simp; omega) | omega))))⟩
set_option maxHeartbeats 1000000 in
theorem l11Width_any (p k g : Int) (w : World) (h : fieldB p k g = true) :
    Calls Try.prog 87 #[.agg #[.int .i64 p, .int .i64 k, .int .i64 g]] w fun e w' => e = .returned (.int .i64 (widV (fsize p k))) ∧ Below w.heap.size w w' := by
  have HSZ := Lib.hid (fun w => l02Size_any p k g w h)
  obtain ⟨S, hS0, h3, h4⟩ := fieldB_size h
  rw [hS0] at HSZ ⊢
  clear h hS0
  go_enter Try.func87, Try.ntmps87
  go_wp2_with fail
  go_loopw [3] (fun q wr => ∃ n : Nat, q = .int .i64 n ∧ n ≤ 10 ∧ Hid (2 ^ n ≤ S) ∧ Hid (wr.heap[w.heap.size]? = some (.cells #[.int .i64 p, .int .i64 k, .int .i64 g] 28 (0, 0))) ∧ Hid (Below w.heap.size w wr)) (fun q _ => 12 - (intOf q).toNat)
  case atStart => exact ⟨0, rfl, by omega, Lib.hid (by omega), Lib.hid (heap_alloc_new _ _), Lib.hid (by go_grown)⟩
  case round =>
    rename World => wo
    obtain ⟨n, rfl, hn, hle, hh, hbl⟩ := hrel
    obtain ⟨c0, c1, c2, -⟩ := blk3 hh.out
    have hz := lt_of_block hh.out
    have hbw := hbl.out
    have hn9 : n ≤ 9 := by
      rcases Nat.lt_or_ge n 10 with h | h
      · omega
      · have := hle.out
        have : 2 ^ 10 ≤ 2 ^ n := Nat.pow_le_pow_right (by decide) h
        omega
    have hpw := pow2_bd (k := n) (by omega)
    have hp2 := pow_two_int n
    by_cases hc : 2 ^ (n + 1) ≤ S
    · have HCC := Lib.hid hc
      have hci : ((2 ^ (n + 1) : Nat) : Int) ≤ (S : Int) := by omega
      rw [← hp2] at hci
      clear hp2 hc
      go_wp2_with (go_at_call 88; with_reducible refine (HSZ.out _).mono ?_; rintro e1 w1 ⟨rfl, hb1⟩; obtain ⟨hc1, hf1⟩ := bcell hb1; have hB1 : Below w.heap.size w w1 := (below_then (by first | (go_grown; done) | (repeat (first | (with_reducible assumption) | (with_reducible exact Below.refl _ _) | (with_reducible refine below_drewN' ?_ _) | (with_reducible refine Below.drew ?_) | ((with_reducible refine Below.alloc ?_ ?_ _); rotate_left; focus (first | (simp; done) | (simp; omega) | omega)) | ((with_reducible refine Below.setCell ?_ ?_ _); rotate_left; focus (first | (simp; done) | (simp; omega) | omega))))) (by first | omega | (simp; done) | (simp; omega)) hb1); have hz1a : w.heap.size < w1.heap.size := (by have := hb1.size; first | omega | (simp at this; omega)))
      have hh1 := Lib.hid (blk_below hh.out hb1 hz)
      clear hc1 hf1 c0 c1 c2
      go_roundw
      case rel => exact ⟨n + 1, by go_num, by omega, HCC, hh1, Lib.hid hB1⟩
      case measure => simp [intOf]; omega
    · have HL := Lib.hid (log2_of hle.out (by omega : S < 2 ^ (n + 1)))
      have hci : ¬ ((2 ^ (n + 1) : Nat) : Int) ≤ (S : Int) := by omega
      rw [← hp2] at hci
      clear hp2 hc
      go_wp2_with (go_at_call 88; with_reducible refine (HSZ.out _).mono ?_; rintro e1 w1 ⟨rfl, hb1⟩; obtain ⟨hc1, hf1⟩ := bcell hb1; have hB1 : Below w.heap.size w w1 := (below_then (by first | (go_grown; done) | (repeat (first | (with_reducible assumption) | (with_reducible exact Below.refl _ _) | (with_reducible refine below_drewN' ?_ _) | (with_reducible refine Below.drew ?_) | ((with_reducible refine Below.alloc ?_ ?_ _); rotate_left; focus (first | (simp; done) | (simp; omega) | omega)) | ((with_reducible refine Below.setCell ?_ ?_ _); rotate_left; focus (first | (simp; done) | (simp; omega) | omega))))) (by first | omega | (simp; done) | (simp; omega)) hb1); have hz1a : w.heap.size < w1.heap.size := (by have := hb1.size; first | omega | (simp at this; omega)))
      go_ret
      exact ⟨ret_int (by unfold widV; rw [Int.toNat_natCast, HL.out]), by (repeat (first | (with_reducible assumption) | (with_reducible exact Below.refl _ _) | (with_reducible refine below_drewN' ?_ _) | (with_reducible refine Below.drew ?_) | ((with_reducible refine Below.alloc ?_ ?_ _); rotate_left; focus (first | (simp; done) | (simp; omega) | omega)) | ((with_reducible refine Below.setCell ?_ ?_ _); rotate_left; focus (first | (simp; done) | (simp; omega) | omega))))⟩
end Go.Proofs.Ytbgcbjfimjfbpaa
