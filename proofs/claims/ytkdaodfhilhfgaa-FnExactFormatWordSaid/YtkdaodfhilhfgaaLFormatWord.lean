/-
  The row FnExactFormatWord: for every format code and every number the program's FormatWord returns what the reference's returns, in memory of its own; no condition.
-/
import Derived.Test.YtkdaodfhilhfgaaFrame
import Derived.Test.YtkdaodfhilhfgaaC08G
namespace Go.Proofs.Ytkdaodfhilhfgaa
open Go.ChangeShapes Go.WideShapes Go.ChangeAt Go.RowKit

theorem fwL_len (d l p v : Int) : (fwL d l p v).length ≤ 24 := by
  unfold fwL
  split
  · rename_i h
    obtain ⟨D, k, P, rfl, rfl, rfl, hD0, hD, hk0, hk, hDk, hp⟩ := fcodeB_true h
    split
    · rw [bitsL_len]; omega
    · simp
  · simp
set_option maxHeartbeats 1000000 in
theorem lawFormatWord (d l p v : Int) (w : World) (hl : -9223372036854775808 ≤ l ∧ l ≤ 9223372036854775807) :
    Calls Try.prog 3 #[.agg #[.int .i64 d, .int .i64 l, .int .i64 p], .int .i64 v] w fun e' w' =>
      e' = .returned (.bool true) ∧ Below w.heap.size w w' := by
  have s1 := fun w => sFormatWord_any d l p v w hl
  have s2 := fun w => FormatWord_any d l p v w hl
  have hL := fwL_len d l p v
  generalize fwL d l p v = L at s1 s2 hL
  generalize fwC d l p v = C at s1 s2
  have S1 := Lib.hid s1
  have S2 := Lib.hid s2
  clear s1 s2
  have hk : (C != C) = false := by simp
  have hLL : (L == L) = true := by simp
  go_enter Try.func3, Try.ntmps3
  go_wp2_with fail
  (go_at_call 12; go_call (toFormatCode_any d l p _) as e1 w1 ⟨rfl, hb1⟩; obtain ⟨hc1, hf1⟩ := bcell hb1; have hB1 : Below w.heap.size w w1 := (below_then (by first | (go_grown; done) | (repeat (first | with_reducible assumption | with_reducible exact Below.refl _ _ | refine below_drewN' ?_ _ | refine Below.drew ?_ | refine Below.alloc ?_ (by first | (simp; done) | (simp; omega) | omega) _ | refine Below.setCell ?_ (by first | (simp; done) | (simp; omega) | omega) _))) (by first | omega | (simp; done) | (simp; omega)) hb1); have hz1a : w.heap.size < w1.heap.size := (by have := hb1.size; first | omega | (simp at this; omega)))
  go_wp2_with fail
  (go_at_call 11; with_reducible refine (S1.out _).mono ?_; rintro e2 w2 ⟨v2, rfl, ho2, hb2⟩; obtain ⟨hc2, hf2⟩ := bcell hb2; have hB2 : Below w.heap.size w w2 := (below_then (by first | (go_grown; done) | (repeat (first | with_reducible assumption | with_reducible exact Below.refl _ _ | refine below_drewN' ?_ _ | refine Below.drew ?_ | refine Below.alloc ?_ (by first | (simp; done) | (simp; omega) | omega) _ | refine Below.setCell ?_ (by first | (simp; done) | (simp; omega) | omega) _))) (by first | omega | (simp; done) | (simp; omega)) hb2); have hz2a : w.heap.size < w2.heap.size := (by have := hb2.size; first | omega | (simp at this; omega)))
  go_wp2_with fail
  (go_at_call 12; go_call (toFormatCode_any d l p _) as e3 w3 ⟨rfl, hb3⟩; obtain ⟨hc3, hf3⟩ := bcell hb3; have hB3 : Below w.heap.size w w3 := (below_then (by first | (go_grown; done) | (repeat (first | with_reducible assumption | with_reducible exact Below.refl _ _ | refine below_drewN' ?_ _ | refine Below.drew ?_ | refine Below.alloc ?_ (by first | (simp; done) | (simp; omega) | omega) _ | refine Below.setCell ?_ (by first | (simp; done) | (simp; omega) | omega) _))) (by first | omega | (simp; done) | (simp; omega)) hb3); have hz3a : w.heap.size < w3.heap.size := (by have := hb3.size; first | omega | (simp at this; omega)))
  go_wp2_with fail
  (go_at_call 13; with_reducible refine (S2.out _).mono ?_; rintro e4 w4 ⟨v4, rfl, ho4, hb4⟩; obtain ⟨hc4, hf4⟩ := bcell hb4; have hB4 : Below w.heap.size w w4 := (below_then (by first | (go_grown; done) | (repeat (first | with_reducible assumption | with_reducible exact Below.refl _ _ | refine below_drewN' ?_ _ | refine Below.drew ?_ | refine Below.alloc ?_ (by first | (simp; done) | (simp; omega) | omega) _ | refine Below.setCell ?_ (by first | (simp; done) | (simp; omega) | omega) _))) (by first | omega | (simp; done) | (simp; omega)) hb4); have hz4a : w.heap.size < w4.heap.size := (by have := hb4.size; first | omega | (simp at this; omega)))
  obtain ⟨A2, c2, rfl, hr2⟩ := ho2.shape
  obtain ⟨A4, c4, rfl, hr4⟩ := ho4.shape
  go_wp2_with fail
  refine (eqInt64S_any A4 A2 L.length L.length c4 c2 L L _ _ _ hr4 (hr2.below (hb3.trans (hb4.mono hb3.size))) (by omega) (by omega)).mono ?_
  rintro e5 w5 ⟨rfl, m5, rfl⟩
  go_wp2_with fail
  refine (markInt64S_any (.slice A4 L.length c4) L 1 _ _ (ho4.drewN m5) (by omega) (by omega) (by omega)).mono ?_
  rintro e6 w6 ⟨rfl, ho6, hg6⟩
  have hb6 : Below w3.heap.size w4 w6 := Own.below_marked (ho4.drewN m5) (below_drewN' (Below.refl _ _) _) hb4.size hg6
  have hc6 : ∀ b o, b < w3.heap.size → w6.cell? ⟨b, o, none⟩ = w4.cell? ⟨b, o, none⟩ := fun b o h => hb6.cell (p := ⟨b, o, none⟩) h
  have hf6 : ∀ b o, b < w3.heap.size → w6.frozen? ⟨b, o, none⟩ = w4.frozen? ⟨b, o, none⟩ := fun b o h => hb6.frozen (p := ⟨b, o, none⟩) h
  have hB6 : Below w.heap.size w w6 := hB4.trans (hb6.mono (by omega))
  have hz6a : w.heap.size < w6.heap.size := by have := hb6.size; omega
  have HO6 := Lib.hid ho6
  have HR6 := Lib.hid ((hr2.below (hb3.trans (hb4.mono hb3.size))).below (hb6.mono hb3.size))
  clear ho6 hg6
  go_wp2_with fail
  refine (heldInt64S_any _ L.length 1 _ _ HO6.out (by omega) (by omega) (by omega)).mono ?_
  rintro e7 w7 ⟨rfl, rfl⟩
  go_wp2_with fail
  (go_at_call 12; go_call (toFormatCode_any d l p _) as e8 w8 ⟨rfl, hb8⟩; obtain ⟨hc8, hf8⟩ := bcell hb8; have hB8 : Below w.heap.size w w8 := (below_then (by first | (go_grown; done) | (repeat (first | with_reducible assumption | with_reducible exact Below.refl _ _ | refine below_drewN' ?_ _ | refine Below.drew ?_ | refine Below.alloc ?_ (by first | (simp; done) | (simp; omega) | omega) _ | refine Below.setCell ?_ (by first | (simp; done) | (simp; omega) | omega) _))) (by first | omega | (simp; done) | (simp; omega)) hb8); have hz8a : w.heap.size < w8.heap.size := (by have := hb8.size; first | omega | (simp at this; omega)))
  go_wp2_with fail
  (go_at_call 13; with_reducible refine (S2.out _).mono ?_; rintro e9 w9 ⟨v9, rfl, ho9, hb9⟩; obtain ⟨hc9, hf9⟩ := bcell hb9; have hB9 : Below w.heap.size w w9 := (below_then (by first | (go_grown; done) | (repeat (first | with_reducible assumption | with_reducible exact Below.refl _ _ | refine below_drewN' ?_ _ | refine Below.drew ?_ | refine Below.alloc ?_ (by first | (simp; done) | (simp; omega) | omega) _ | refine Below.setCell ?_ (by first | (simp; done) | (simp; omega) | omega) _))) (by first | omega | (simp; done) | (simp; omega)) hb9); have hz9a : w.heap.size < w9.heap.size := (by have := hb9.size; first | omega | (simp at this; omega)))
  obtain ⟨A9, c9, rfl, hr9⟩ := ho9.shape
  have HO9 := Lib.hid ((HO6.out.keep hb8).keep hb9)
  have HR9 := Lib.hid (HR6.out.below ((hb8.trans (hb9.mono hb8.size)).mono (by have := hb6.size; have := hb4.size; have := hb3.size; omega)))
  go_wp2_with fail
  refine (eqInt64S_any A9 A2 L.length L.length c9 c2 L L _ _ _ hr9 HR9.out (by omega) (by omega)).mono ?_
  rintro e10 w10 ⟨rfl, m10, rfl⟩
  go_wp2_with fail
  refine (heldInt64S_any _ L.length 1 _ _ (HO9.out.drewN m10) (by omega) (by omega) (by omega)).mono ?_
  rintro e11 w11 ⟨rfl, rfl⟩
  go_wp2_with fail
  go_ret
  exact ⟨rfl, below_drewN' hB9 _⟩
set_option maxRecDepth 100000 in
theorem lifted_FnExactFormatWord (os : Os) (started : os.Started) (H : Type) (enc : TypeId × Value → H) :
    ReturnsInHanded {} Try.checked os 3 .any (Rows.fnExactFormatWordSpec.pre6 enc Try.prog Try.f3 Rows.fnExactFormatWordRow.domain false) (Rows.fnExactFormatWordSpec.post enc Try.prog Try.f3 false true false false) := by
  refine law_lifted (C := Try.checked) (tb := 4) own started (by kernel_rfl) Try.func3
    (ChangeSpec.witness6 (enc := enc) (C := Try.checked) false ⟨#[], #[.agg #[.int .i64 0, .int .i64 0, .int .i64 0], .int .i64 0], []⟩ 8 (by kernel_rfl) (by kernel_rfl) (by kernel_rfl) (by kernel_rfl))
    laidOut (by kernel_rfl) rfl rfl Try.underlying4 ?_ ?_
  · intro ds hd
    match ds, hd with
    | [e0, e1], _ => rfl
  · intro W base args ds p hval hA hlt hsz
    have hval1 : ∀ (j : Nat) t v, Try.f3.params[j]? = some t → args[j]? = some v → Value.okWide Try.prog W .any base t v := hval
    have hA1 : DataW.TrodAll enc Try.prog W 0 (fun _ => true) true Try.f3.params.toList args.toList ds p := hA
    have hsz1 : (DataW.weightsEach Try.prog Try.f3.params.toList ds).all (· ≤ reachBytes) = true := hsz
    rw [Try.params3] at hval1 hA1 hsz1
    clear hval hA hsz
    obtain ⟨v0, v1, d0, d1, p0, p1, rfl, rfl, rfl, h0, h1⟩ := trodAll_two hA1
    obtain ⟨xs, hl, rfl, hb⟩ := ok_agg_ints (n := 3) (e := 2) Try.underlying23 (by kernel_rfl) (by kernel_rfl) Try.underlying2 (hval1 0 23 v0 rfl rfl)
    obtain ⟨v, rfl, _⟩ := ok_int Try.underlying2 (hval1 1 2 v1 rfl rfl)
    match xs, hl, hb with
    | [d, l, p], _, hb => exact lawFormatWord d l p v W (hb l (by simp))
theorem holds_FnExactFormatWord : Rows.FnExactFormatWordSaid :=
  OpenClaim.holds_of_wide 3 Try.f3 rfl rfl rfl rfl rfl rfl rfl ⟨rfl, rfl, rfl, rfl, rfl⟩ rfl rfl rfl rfl rfl (by kernel_rfl) Try.func3 (by kernel_rfl)
    (of_decide_eq_true (by kernel_rfl)) (by unfold Func.isWrapper; first | (rw [if_pos (by decide +kernel)]; kernel_rfl) | (rw [if_neg (by decide +kernel)]; exact ⟨rfl, rfl⟩))
    (fun os started H enc _ => lifted_FnExactFormatWord os started H enc)

end Go.Proofs.Ytkdaodfhilhfgaa
