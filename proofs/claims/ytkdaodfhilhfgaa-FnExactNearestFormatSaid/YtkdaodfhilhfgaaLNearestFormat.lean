/-
  The row FnExactNearestFormat: for every format code and every list the program's NearestFormat returns what the reference's returns, and leaves the list as it was; no condition.
-/
import Derived.Test.YtkdaodfhilhfgaaArgS
import Derived.Test.YtkdaodfhilhfgaaC08T
import Derived.Test.YtkdaodfhilhfgaaToS
namespace Go.Proofs.Ytkdaodfhilhfgaa
open Go.ChangeShapes Go.WideShapes Go.ChangeAt Go.RowKit

set_option maxHeartbeats 2000000 in
theorem lawNearestFormat (d l p : Int) (A : Option Addr) (n c : Nat) (xs : List Int) (w : World) (hr : RI w w.heap.size A n xs) (hl : -9223372036854775808 ≤ l ∧ l ≤ 9223372036854775807) :
    Calls Try.prog 6 #[.agg #[.int .i64 d, .int .i64 l, .int .i64 p], .slice A n c] w fun e' w' =>
      e' = .returned (.bool true) ∧ Below w.heap.size w w' := by
  have HLN := Lib.hid hr.len
  have HR := Lib.hid hr
  clear hr
  by_cases hbig : n ≤ 1048576
  · have hn : n ≤ 1000000000000000 := by omega
    have s1 := fun (A : Option Addr) (c : Nat) (w : World) (B : Nat) (hr : RI w B A n xs) (hB : B ≤ w.heap.size) => sNearestFormat_any d l p A n c xs w B hr hB hn hl
    have s2 := fun (A : Option Addr) (c : Nat) (w : World) (B : Nat) (hr : RI w B A n xs) (hB : B ≤ w.heap.size) => NearestFormat_any d l p A n c xs w B hr hB hn hl
    generalize nfV d l p xs = V at s1 s2
    generalize nfD d l p xs = D at s1 s2
    generalize nfC d l p xs = C at s1 s2
    have S1 := Lib.hid s1
    have S2 := Lib.hid s2
    clear s1 s2
    have h1 : (V != V) = false := by simp
    have h2 : (D != D) = false := by simp
    have h3 : (C != C) = false := by simp
    have hLL : (xs == xs) = true := by simp
    have HT := Lib.hid (fun w' (hb : Below w.heap.size w w') => toInt64S_any A n c xs w' w.heap.size (HR.out.below hb) hb.size (by omega))
    go_enter Try.func6, Try.ntmps6
    go_wp2_with fail
    (go_at_call 12; go_call (toFormatCode_any d l p _) as e1 w1 ⟨rfl, hb1⟩; obtain ⟨hc1, hf1⟩ := bcell hb1; have hB1 : Below w.heap.size w w1 := (below_then (by first | (go_grown; done) | (repeat (first | (with_reducible assumption) | (with_reducible exact Below.refl _ _) | (with_reducible refine below_drewN' ?_ _) | (with_reducible refine Below.drew ?_) | ((with_reducible refine Below.alloc ?_ ?_ _); rotate_left; focus (first | (simp; done) | (simp; omega) | omega)) | ((with_reducible refine Below.setCell ?_ ?_ _); rotate_left; focus (first | (simp; done) | (simp; omega) | omega))))) (by first | omega | (simp; done) | (simp; omega)) hb1); have hz1a : w.heap.size < w1.heap.size := (by have := hb1.size; first | omega | (simp at this; omega)))
    go_wp2_with fail
    (go_at_call 22; go_call (HT.out _ hB1) as e2 w2 ⟨v2, rfl, ho2, hb2⟩; obtain ⟨hc2, hf2⟩ := bcell hb2; have hB2 : Below w.heap.size w w2 := (below_then (by first | (go_grown; done) | (repeat (first | (with_reducible assumption) | (with_reducible exact Below.refl _ _) | (with_reducible refine below_drewN' ?_ _) | (with_reducible refine Below.drew ?_) | ((with_reducible refine Below.alloc ?_ ?_ _); rotate_left; focus (first | (simp; done) | (simp; omega) | omega)) | ((with_reducible refine Below.setCell ?_ ?_ _); rotate_left; focus (first | (simp; done) | (simp; omega) | omega))))) (by first | omega | (simp; done) | (simp; omega)) hb2); have hz2a : w.heap.size < w2.heap.size := (by have := hb2.size; first | omega | (simp at this; omega)))
    obtain ⟨A2, c2, rfl, hr2⟩ := ho2.shape
    rw [HLN.out] at hr2 ⊢
    have HR2 := Lib.hid hr2
    clear ho2 hr2
    go_wp2_with fail
    (go_at_call 21; go_call (S1.out _ _ _ _ HR2.out (Nat.le_refl _)) as e3 w3 ⟨rfl, hb3⟩; obtain ⟨hc3, hf3⟩ := bcell hb3; have hB3 : Below w.heap.size w w3 := (below_then (by first | (go_grown; done) | (repeat (first | (with_reducible assumption) | (with_reducible exact Below.refl _ _) | (with_reducible refine below_drewN' ?_ _) | (with_reducible refine Below.drew ?_) | ((with_reducible refine Below.alloc ?_ ?_ _); rotate_left; focus (first | (simp; done) | (simp; omega) | omega)) | ((with_reducible refine Below.setCell ?_ ?_ _); rotate_left; focus (first | (simp; done) | (simp; omega) | omega))))) (by first | omega | (simp; done) | (simp; omega)) hb3); have hz3a : w.heap.size < w3.heap.size := (by have := hb3.size; first | omega | (simp at this; omega)))
    go_wp2_with fail
    (go_at_call 22; go_call (HT.out _ hB3) as e4 w4 ⟨v4, rfl, ho4, hb4⟩; obtain ⟨hc4, hf4⟩ := bcell hb4; have hB4 : Below w.heap.size w w4 := (below_then (by first | (go_grown; done) | (repeat (first | (with_reducible assumption) | (with_reducible exact Below.refl _ _) | (with_reducible refine below_drewN' ?_ _) | (with_reducible refine Below.drew ?_) | ((with_reducible refine Below.alloc ?_ ?_ _); rotate_left; focus (first | (simp; done) | (simp; omega) | omega)) | ((with_reducible refine Below.setCell ?_ ?_ _); rotate_left; focus (first | (simp; done) | (simp; omega) | omega))))) (by first | omega | (simp; done) | (simp; omega)) hb4); have hz4a : w.heap.size < w4.heap.size := (by have := hb4.size; first | omega | (simp at this; omega)))
    obtain ⟨A4, c4, rfl, hr4⟩ := ho4.shape
    rw [HLN.out] at hr4 ⊢
    have HR4 := Lib.hid hr4
    clear ho4 hr4
    go_wp2_with fail
    (go_at_call 12; go_call (toFormatCode_any d l p _) as e5 w5 ⟨rfl, hb5⟩; obtain ⟨hc5, hf5⟩ := bcell hb5; have hB5 : Below w.heap.size w w5 := (below_then (by first | (go_grown; done) | (repeat (first | (with_reducible assumption) | (with_reducible exact Below.refl _ _) | (with_reducible refine below_drewN' ?_ _) | (with_reducible refine Below.drew ?_) | ((with_reducible refine Below.alloc ?_ ?_ _); rotate_left; focus (first | (simp; done) | (simp; omega) | omega)) | ((with_reducible refine Below.setCell ?_ ?_ _); rotate_left; focus (first | (simp; done) | (simp; omega) | omega))))) (by first | omega | (simp; done) | (simp; omega)) hb5); have hz5a : w.heap.size < w5.heap.size := (by have := hb5.size; first | omega | (simp at this; omega)))
    have HR5 := Lib.hid (HR4.out.below hb5)
    have hs5 := hb5.size
    go_wp2_with fail
    (go_at_call 23; go_call (S2.out _ _ _ _ HR5.out hs5) as e6 w6 ⟨rfl, hb6⟩; obtain ⟨hc6, hf6⟩ := bcell hb6; have hB6 : Below w.heap.size w w6 := (below_then (by first | (go_grown; done) | (repeat (first | (with_reducible assumption) | (with_reducible exact Below.refl _ _) | (with_reducible refine below_drewN' ?_ _) | (with_reducible refine Below.drew ?_) | ((with_reducible refine Below.alloc ?_ ?_ _); rotate_left; focus (first | (simp; done) | (simp; omega) | omega)) | ((with_reducible refine Below.setCell ?_ ?_ _); rotate_left; focus (first | (simp; done) | (simp; omega) | omega))))) (by first | omega | (simp; done) | (simp; omega)) hb6); have hz6a : w.heap.size < w6.heap.size := (by have := hb6.size; first | omega | (simp at this; omega)))
    have HR6 := Lib.hid (HR5.out.below (hb6.mono hs5))
    have hs6 := hb6.size
    go_wp2_with fail
    (go_at_call 22; go_call (HT.out _ hB6) as e7 w7 ⟨v7, rfl, ho7, hb7⟩; obtain ⟨hc7, hf7⟩ := bcell hb7; have hB7 : Below w.heap.size w w7 := (below_then (by first | (go_grown; done) | (repeat (first | (with_reducible assumption) | (with_reducible exact Below.refl _ _) | (with_reducible refine below_drewN' ?_ _) | (with_reducible refine Below.drew ?_) | ((with_reducible refine Below.alloc ?_ ?_ _); rotate_left; focus (first | (simp; done) | (simp; omega) | omega)) | ((with_reducible refine Below.setCell ?_ ?_ _); rotate_left; focus (first | (simp; done) | (simp; omega) | omega))))) (by first | omega | (simp; done) | (simp; omega)) hb7); have hz7a : w.heap.size < w7.heap.size := (by have := hb7.size; first | omega | (simp at this; omega)))
    obtain ⟨A7, c7, rfl, hr7⟩ := ho7.shape
    rw [HLN.out] at hr7 ⊢
    have HR7 := Lib.hid (HR6.out.below (hb7.mono (Nat.le_trans hs5 hs6)))
    go_wp2_with fail
    refine (eqInt64S_any A4 A7 n n c4 c7 xs xs _ _ _ HR7.out hr7 (by omega) (by omega)).mono ?_
    rintro e8 w8 ⟨rfl, m8, rfl⟩
    go_wp2_with fail
    go_ret
    exact ⟨rfl, below_drewN' hB7 _⟩
  · go_enter Try.func6, Try.ntmps6
    go_wp2_with fail
    go_ret
    exact ⟨rfl, by go_grown⟩
set_option maxRecDepth 100000 in
theorem lifted_FnExactNearestFormat (os : Os) (started : os.Started) (H : Type) (enc : TypeId × Value → H) :
    ReturnsInHanded {} Try.checked os 6 .any (Rows.fnExactNearestFormatSpec.pre6 enc Try.prog Try.f6 Rows.fnExactNearestFormatRow.domain false) (Rows.fnExactNearestFormatSpec.post enc Try.prog Try.f6 false true false false) := by
  refine law_lifted (C := Try.checked) (tb := 4) own started (by kernel_rfl) Try.func6
    (ChangeSpec.witness6 (enc := enc) (C := Try.checked) false ⟨#[], #[.agg #[.int .i64 0, .int .i64 0, .int .i64 0], .slice none 0 0], []⟩ 8 (by kernel_rfl) (by kernel_rfl) (by kernel_rfl) (by kernel_rfl))
    laidOut (by kernel_rfl) rfl rfl Try.underlying4 ?_ ?_
  · intro ds hd
    match ds, hd with
    | [e0, e1], _ => rfl
  · intro W base args ds p hval hA hlt hsz
    have hval1 : ∀ (j : Nat) t v, Try.f6.params[j]? = some t → args[j]? = some v → Value.okWide Try.prog W .any base t v := hval
    have hA1 : DataW.TrodAll enc Try.prog W 0 (fun _ => true) true Try.f6.params.toList args.toList ds p := hA
    have hsz1 : (DataW.weightsEach Try.prog Try.f6.params.toList ds).all (· ≤ reachBytes) = true := hsz
    rw [Try.params6] at hval1 hA1 hsz1
    clear hval hA hsz
    obtain ⟨v0, v1, d0, d1, p0, p1, rfl, rfl, rfl, h0, h1⟩ := trodAll_two hA1
    obtain ⟨xs, hl, rfl, hb⟩ := ok_agg_ints (n := 3) (e := 2) Try.underlying23 (by kernel_rfl) (by kernel_rfl) Try.underlying2 (hval1 0 23 v0 rfl rfl)
    obtain ⟨A, n, c, ys, rfl, hr, _, _⟩ := arg_ints Try.underlying24 Try.underlying2 (by kernel_rfl) (hval1 1 24 v1 rfl rfl) h1 (fun x hx => hlt x (by simp [hx]))
    match xs, hl, hb with
    | [d, l, p], _, hb => exact lawNearestFormat d l p A n c ys W hr (hb l (by simp))
theorem holds_FnExactNearestFormat : Rows.FnExactNearestFormatSaid :=
  OpenClaim.holds_of_wide 6 Try.f6 rfl rfl rfl rfl rfl rfl rfl ⟨rfl, rfl, rfl, rfl, rfl⟩ rfl rfl rfl rfl rfl (by kernel_rfl) Try.func6 (by kernel_rfl)
    (of_decide_eq_true (by kernel_rfl)) (by unfold Func.isWrapper; first | (rw [if_pos (by decide +kernel)]; kernel_rfl) | (rw [if_neg (by decide +kernel)]; exact ⟨rfl, rfl⟩))
    (fun os started H enc _ => lifted_FnExactNearestFormat os started H enc)

end Go.Proofs.Ytkdaodfhilhfgaa
