/-
  The row FnExactFormatText: for every format code and every number the program's FormatText returns what the reference's returns; no condition.
-/
import Derived.Test.YtkdaodfhilhfgaaFrame
import Derived.Test.YtkdaodfhilhfgaaC08G
import Derived.Test.YtkdaodfhilhfgaaC01B
namespace Go.Proofs.Ytkdaodfhilhfgaa
open Go.ChangeShapes Go.WideShapes Go.ChangeAt Go.RowKit

theorem fw_ok {d l p v : Int} (h : fwC d l p v = 0) : 1 ≤ (fwL d l p v).length ∧ (fwL d l p v).length ≤ 24 ∧ all01 (fwL d l p v) := by
  unfold fwC at h
  unfold fwL
  split at h
  · rename_i hc
    split at h
    · rename_i hv
      obtain ⟨D, k, P, rfl, rfl, rfl, hD0, hD, hk0, hk, hDk, hp⟩ := fcodeB_true hc
      rw [if_pos hc, if_pos hv, bitsL_len]
      exact ⟨by omega, by omega, fun x hx => bitsL_01 hx⟩
    · omega
  · omega
/-- The text of a format word. -/
def ftS (d l p v : Int) : ByteArray := if fwC d l p v = 0 then strOfNums (txt (fwL d l p v)) else ⟨#[]⟩
set_option maxHeartbeats 1000000 in
theorem sFormatText_any (d l p v : Int) (w : World) (hl : -9223372036854775808 ≤ l ∧ l ≤ 9223372036854775807) :
    Calls Try.prog 19 #[.agg #[.int .i64 d, .int .i64 l, .int .i64 p], .int .i64 v] w fun e w' => e = .returned (.string (ftS d l p v)) ∧ Below w.heap.size w w' := by
  have s1 := fun w => sFormatWord_any d l p v w hl
  have hok := @fw_ok d l p v
  unfold ftS
  generalize fwL d l p v = L at s1 hok ⊢
  generalize fwC d l p v = C at s1 hok ⊢
  have S1 := Lib.hid s1
  clear s1
  by_cases hC : C = 0
  · obtain ⟨h1, h2, h3⟩ := hok hC
    rw [if_pos hC]
    have hk : (C != 0) = false := by simpa using hC
    have H3 := Lib.hid h3
    clear hok hC h3
    go_enter Try.func19, Try.ntmps19
    go_wp2_with fail
    (go_at_call 11; with_reducible refine (S1.out _).mono ?_; rintro e1 w1 ⟨v1, rfl, ho1, hb1⟩; obtain ⟨hc1, hf1⟩ := bcell hb1; have hB1 : Below w.heap.size w w1 := (below_then (by first | (go_grown; done) | (repeat (first | (with_reducible assumption) | (with_reducible exact Below.refl _ _) | (with_reducible refine below_drewN' ?_ _) | (with_reducible refine Below.drew ?_) | ((with_reducible refine Below.alloc ?_ ?_ _); rotate_left; focus (first | (simp; done) | (simp; omega) | omega)) | ((with_reducible refine Below.setCell ?_ ?_ _); rotate_left; focus (first | (simp; done) | (simp; omega) | omega))))) (by first | omega | (simp; done) | (simp; omega)) hb1); have hz1a : w.heap.size < w1.heap.size := (by have := hb1.size; first | omega | (simp at this; omega)))
    obtain ⟨A1, c1, rfl, hr1⟩ := ho1.shape
    go_wp2_with fail
    (go_at_call 43; go_call (sBitsText_any A1 L.length c1 L _ hr1 h1 (by omega) H3.out) as e2 w2 ⟨rfl, hb2⟩; obtain ⟨hc2, hf2⟩ := bcell hb2; have hB2 : Below w.heap.size w w2 := (below_then (by first | (go_grown; done) | (repeat (first | (with_reducible assumption) | (with_reducible exact Below.refl _ _) | (with_reducible refine below_drewN' ?_ _) | (with_reducible refine Below.drew ?_) | ((with_reducible refine Below.alloc ?_ ?_ _); rotate_left; focus (first | (simp; done) | (simp; omega) | omega)) | ((with_reducible refine Below.setCell ?_ ?_ _); rotate_left; focus (first | (simp; done) | (simp; omega) | omega))))) (by first | omega | (simp; done) | (simp; omega)) hb2); have hz2a : w.heap.size < w2.heap.size := (by have := hb2.size; first | omega | (simp at this; omega)))
    go_wp2_with fail
    go_ret
    exact ⟨rfl, hB2⟩
  · rw [if_neg hC]
    have hk : (C != 0) = true := by simpa using hC
    clear hok
    go_enter Try.func19, Try.ntmps19
    go_wp2_with fail
    (go_at_call 11; with_reducible refine (S1.out _).mono ?_; rintro e1 w1 ⟨v1, rfl, ho1, hb1⟩; obtain ⟨hc1, hf1⟩ := bcell hb1; have hB1 : Below w.heap.size w w1 := (below_then (by first | (go_grown; done) | (repeat (first | (with_reducible assumption) | (with_reducible exact Below.refl _ _) | (with_reducible refine below_drewN' ?_ _) | (with_reducible refine Below.drew ?_) | ((with_reducible refine Below.alloc ?_ ?_ _); rotate_left; focus (first | (simp; done) | (simp; omega) | omega)) | ((with_reducible refine Below.setCell ?_ ?_ _); rotate_left; focus (first | (simp; done) | (simp; omega) | omega))))) (by first | omega | (simp; done) | (simp; omega)) hb1); have hz1a : w.heap.size < w1.heap.size := (by have := hb1.size; first | omega | (simp at this; omega)))
    go_wp2_with fail
    go_ret
    exact ⟨rfl, hB1⟩
set_option maxHeartbeats 1000000 in
theorem FormatText_any (d l p v : Int) (w : World) (hl : -9223372036854775808 ≤ l ∧ l ≤ 9223372036854775807) :
    Calls Try.prog 20 #[.agg #[.int .i64 d, .int .i64 l, .int .i64 p], .int .i64 v] w fun e w' => e = .returned (.string (ftS d l p v)) ∧ Below w.heap.size w w' := by
  have s1 := fun w => FormatWord_any d l p v w hl
  have hok := @fw_ok d l p v
  unfold ftS
  generalize fwL d l p v = L at s1 hok ⊢
  generalize fwC d l p v = C at s1 hok ⊢
  have S1 := Lib.hid s1
  clear s1
  by_cases hC : C = 0
  · obtain ⟨h1, h2, h3⟩ := hok hC
    rw [if_pos hC]
    have hk : (C != 0) = false := by simpa using hC
    have H3 := Lib.hid h3
    clear hok hC h3
    go_enter Try.func20, Try.ntmps20
    go_wp2_with fail
    (go_at_call 13; with_reducible refine (S1.out _).mono ?_; rintro e1 w1 ⟨v1, rfl, ho1, hb1⟩; obtain ⟨hc1, hf1⟩ := bcell hb1; have hB1 : Below w.heap.size w w1 := (below_then (by first | (go_grown; done) | (repeat (first | (with_reducible assumption) | (with_reducible exact Below.refl _ _) | (with_reducible refine below_drewN' ?_ _) | (with_reducible refine Below.drew ?_) | ((with_reducible refine Below.alloc ?_ ?_ _); rotate_left; focus (first | (simp; done) | (simp; omega) | omega)) | ((with_reducible refine Below.setCell ?_ ?_ _); rotate_left; focus (first | (simp; done) | (simp; omega) | omega))))) (by first | omega | (simp; done) | (simp; omega)) hb1); have hz1a : w.heap.size < w1.heap.size := (by have := hb1.size; first | omega | (simp at this; omega)))
    obtain ⟨A1, c1, rfl, hr1⟩ := ho1.shape
    go_wp2_with fail
    (go_at_call 44; go_call (BitsText_any A1 L.length c1 L _ hr1 h1 (by omega) H3.out) as e2 w2 ⟨rfl, hb2⟩; obtain ⟨hc2, hf2⟩ := bcell hb2; have hB2 : Below w.heap.size w w2 := (below_then (by first | (go_grown; done) | (repeat (first | (with_reducible assumption) | (with_reducible exact Below.refl _ _) | (with_reducible refine below_drewN' ?_ _) | (with_reducible refine Below.drew ?_) | ((with_reducible refine Below.alloc ?_ ?_ _); rotate_left; focus (first | (simp; done) | (simp; omega) | omega)) | ((with_reducible refine Below.setCell ?_ ?_ _); rotate_left; focus (first | (simp; done) | (simp; omega) | omega))))) (by first | omega | (simp; done) | (simp; omega)) hb2); have hz2a : w.heap.size < w2.heap.size := (by have := hb2.size; first | omega | (simp at this; omega)))
    go_wp2_with fail
    go_ret
    exact ⟨rfl, hB2⟩
  · rw [if_neg hC]
    have hk : (C != 0) = true := by simpa using hC
    clear hok
    go_enter Try.func20, Try.ntmps20
    go_wp2_with fail
    (go_at_call 13; with_reducible refine (S1.out _).mono ?_; rintro e1 w1 ⟨v1, rfl, ho1, hb1⟩; obtain ⟨hc1, hf1⟩ := bcell hb1; have hB1 : Below w.heap.size w w1 := (below_then (by first | (go_grown; done) | (repeat (first | (with_reducible assumption) | (with_reducible exact Below.refl _ _) | (with_reducible refine below_drewN' ?_ _) | (with_reducible refine Below.drew ?_) | ((with_reducible refine Below.alloc ?_ ?_ _); rotate_left; focus (first | (simp; done) | (simp; omega) | omega)) | ((with_reducible refine Below.setCell ?_ ?_ _); rotate_left; focus (first | (simp; done) | (simp; omega) | omega))))) (by first | omega | (simp; done) | (simp; omega)) hb1); have hz1a : w.heap.size < w1.heap.size := (by have := hb1.size; first | omega | (simp at this; omega)))
    go_wp2_with fail
    go_ret
    exact ⟨rfl, hB1⟩
set_option maxHeartbeats 1000000 in
theorem lawFormatText (d l p v : Int) (w : World) (hl : -9223372036854775808 ≤ l ∧ l ≤ 9223372036854775807) :
    Calls Try.prog 5 #[.agg #[.int .i64 d, .int .i64 l, .int .i64 p], .int .i64 v] w fun e' w' =>
      e' = .returned (.bool true) ∧ Below w.heap.size w w' := by
  have s1 := fun w => sFormatText_any d l p v w hl
  have s2 := fun w => FormatText_any d l p v w hl
  generalize ftS d l p v = T at s1 s2
  have S1 := Lib.hid s1
  have S2 := Lib.hid s2
  clear s1 s2
  go_enter Try.func5, Try.ntmps5
  go_wp2_with fail
  (go_at_call 12; go_call (toFormatCode_any d l p _) as e1 w1 ⟨rfl, hb1⟩; obtain ⟨hc1, hf1⟩ := bcell hb1; have hB1 : Below w.heap.size w w1 := (below_then (by first | (go_grown; done) | (repeat (first | (with_reducible assumption) | (with_reducible exact Below.refl _ _) | (with_reducible refine below_drewN' ?_ _) | (with_reducible refine Below.drew ?_) | ((with_reducible refine Below.alloc ?_ ?_ _); rotate_left; focus (first | (simp; done) | (simp; omega) | omega)) | ((with_reducible refine Below.setCell ?_ ?_ _); rotate_left; focus (first | (simp; done) | (simp; omega) | omega))))) (by first | omega | (simp; done) | (simp; omega)) hb1); have hz1a : w.heap.size < w1.heap.size := (by have := hb1.size; first | omega | (simp at this; omega)))
  go_wp2_with fail
  (go_at_call 19; with_reducible refine (S1.out _).mono ?_; rintro e2 w2 ⟨rfl, hb2⟩; obtain ⟨hc2, hf2⟩ := bcell hb2; have hB2 : Below w.heap.size w w2 := (below_then (by first | (go_grown; done) | (repeat (first | (with_reducible assumption) | (with_reducible exact Below.refl _ _) | (with_reducible refine below_drewN' ?_ _) | (with_reducible refine Below.drew ?_) | ((with_reducible refine Below.alloc ?_ ?_ _); rotate_left; focus (first | (simp; done) | (simp; omega) | omega)) | ((with_reducible refine Below.setCell ?_ ?_ _); rotate_left; focus (first | (simp; done) | (simp; omega) | omega))))) (by first | omega | (simp; done) | (simp; omega)) hb2); have hz2a : w.heap.size < w2.heap.size := (by have := hb2.size; first | omega | (simp at this; omega)))
  go_wp2_with fail
  (go_at_call 12; go_call (toFormatCode_any d l p _) as e3 w3 ⟨rfl, hb3⟩; obtain ⟨hc3, hf3⟩ := bcell hb3; have hB3 : Below w.heap.size w w3 := (below_then (by first | (go_grown; done) | (repeat (first | (with_reducible assumption) | (with_reducible exact Below.refl _ _) | (with_reducible refine below_drewN' ?_ _) | (with_reducible refine Below.drew ?_) | ((with_reducible refine Below.alloc ?_ ?_ _); rotate_left; focus (first | (simp; done) | (simp; omega) | omega)) | ((with_reducible refine Below.setCell ?_ ?_ _); rotate_left; focus (first | (simp; done) | (simp; omega) | omega))))) (by first | omega | (simp; done) | (simp; omega)) hb3); have hz3a : w.heap.size < w3.heap.size := (by have := hb3.size; first | omega | (simp at this; omega)))
  go_wp2_with fail
  (go_at_call 20; with_reducible refine (S2.out _).mono ?_; rintro e4 w4 ⟨rfl, hb4⟩; obtain ⟨hc4, hf4⟩ := bcell hb4; have hB4 : Below w.heap.size w w4 := (below_then (by first | (go_grown; done) | (repeat (first | (with_reducible assumption) | (with_reducible exact Below.refl _ _) | (with_reducible refine below_drewN' ?_ _) | (with_reducible refine Below.drew ?_) | ((with_reducible refine Below.alloc ?_ ?_ _); rotate_left; focus (first | (simp; done) | (simp; omega) | omega)) | ((with_reducible refine Below.setCell ?_ ?_ _); rotate_left; focus (first | (simp; done) | (simp; omega) | omega))))) (by first | omega | (simp; done) | (simp; omega)) hb4); have hz4a : w.heap.size < w4.heap.size := (by have := hb4.size; first | omega | (simp at this; omega)))
  go_wp2_with fail
  go_ret
  exact ⟨rfl, hB4⟩
set_option maxRecDepth 100000 in
theorem lifted_FnExactFormatText (os : Os) (started : os.Started) (H : Type) (enc : TypeId × Value → H) :
    ReturnsInHanded {} Try.checked os 5 .any (Rows.fnExactFormatTextSpec.pre6 enc Try.prog Try.f5 Rows.fnExactFormatTextRow.domain false) (Rows.fnExactFormatTextSpec.post enc Try.prog Try.f5 false true false false) := by
  refine law_lifted (C := Try.checked) (tb := 4) own started (by kernel_rfl) Try.func5
    (ChangeSpec.witness6 (enc := enc) (C := Try.checked) false ⟨#[], #[.agg #[.int .i64 0, .int .i64 0, .int .i64 0], .int .i64 0], []⟩ 8 (by kernel_rfl) (by kernel_rfl) (by kernel_rfl) (by kernel_rfl))
    laidOut (by kernel_rfl) rfl rfl Try.underlying4 ?_ ?_
  · intro ds hd
    match ds, hd with
    | [e0, e1], _ => rfl
  · intro W base args ds p hval hA hlt hsz
    have hval1 : ∀ (j : Nat) t v, Try.f5.params[j]? = some t → args[j]? = some v → Value.okWide Try.prog W .any base t v := hval
    have hA1 : DataW.TrodAll enc Try.prog W 0 (fun _ => true) true Try.f5.params.toList args.toList ds p := hA
    have hsz1 : (DataW.weightsEach Try.prog Try.f5.params.toList ds).all (· ≤ reachBytes) = true := hsz
    rw [Try.params5] at hval1 hA1 hsz1
    clear hval hA hsz
    obtain ⟨v0, v1, d0, d1, p0, p1, rfl, rfl, rfl, h0, h1⟩ := trodAll_two hA1
    obtain ⟨xs, hl, rfl, hb⟩ := ok_agg_ints (n := 3) (e := 2) Try.underlying23 (by kernel_rfl) (by kernel_rfl) Try.underlying2 (hval1 0 23 v0 rfl rfl)
    obtain ⟨v, rfl, _⟩ := ok_int Try.underlying2 (hval1 1 2 v1 rfl rfl)
    match xs, hl, hb with
    | [d, l, p], _, hb => exact lawFormatText d l p v W (hb l (by simp))
theorem holds_FnExactFormatText : Rows.FnExactFormatTextSaid :=
  OpenClaim.holds_of_wide 5 Try.f5 rfl rfl rfl rfl rfl rfl rfl ⟨rfl, rfl, rfl, rfl, rfl⟩ rfl rfl rfl rfl rfl (by kernel_rfl) Try.func5 (by kernel_rfl)
    (of_decide_eq_true (by kernel_rfl)) (by unfold Func.isWrapper; first | (rw [if_pos (by decide +kernel)]; kernel_rfl) | (rw [if_neg (by decide +kernel)]; exact ⟨rfl, rfl⟩))
    (fun os started H enc _ => lifted_FnExactFormatText os started H enc)

end Go.Proofs.Ytkdaodfhilhfgaa
