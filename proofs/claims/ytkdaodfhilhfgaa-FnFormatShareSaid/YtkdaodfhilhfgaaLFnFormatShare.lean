/-
  The row FnFormatShare: of two copies of a format word that a code draws the one with less damage is read; no condition.
-/
import Derived.Test.YtkdaodfhilhfgaaArgB
import Derived.Test.YtkdaodfhilhfgaaC08Y
import Derived.Test.YtkdaodfhilhfgaaC08Z
import Derived.Test.YtkdaodfhilhfgaaLFormatShare
namespace Go.Proofs.Ytkdaodfhilhfgaa
open Go.ChangeShapes Go.WideShapes Go.ChangeAt Go.RowKit

set_option maxHeartbeats 2000000 in
theorem lawFnFormatShare (A : Option Addr) (n c : Nat) (bs : List Int) (w : World) (hr : RB w w.heap.size A n bs) :
    Calls Try.prog 9 #[.slice A n c] w fun e' w' => e' = .returned (.bool true) ∧ Below w.heap.size w w' := by
  have HR := Lib.hid hr
  clear hr
  by_cases hbig : 4096 < n
  · have hbd : decide (4096 < n) = true := decide_eq_true hbig
    go_enter Try.func9, Try.ntmps9
    go_wp2_with (go_at_call 26; go_call (big_any _ _ _ _) as e0 w0 ⟨rfl, hb0⟩; obtain ⟨hc0, hf0⟩ := bcell hb0; have hB0 : Below w.heap.size w w0 := (below_then (by first | (go_grown; done) | (repeat (first | (with_reducible assumption) | (with_reducible exact Below.refl _ _) | (with_reducible refine below_drewN' ?_ _) | (with_reducible refine Below.drew ?_) | ((with_reducible refine Below.alloc ?_ ?_ _); rotate_left; focus (first | (simp; done) | (simp; omega) | omega)) | ((with_reducible refine Below.setCell ?_ ?_ _); rotate_left; focus (first | (simp; done) | (simp; omega) | omega))))) (by first | omega | (simp; done) | (simp; omega)) hb0))
    go_ret
    exact ⟨rfl, by (repeat (first | (with_reducible assumption) | (with_reducible exact Below.refl _ _) | (with_reducible refine below_drewN' ?_ _) | (with_reducible refine Below.drew ?_) | ((with_reducible refine Below.alloc ?_ ?_ _); rotate_left; focus (first | (simp; done) | (simp; omega) | omega)) | ((with_reducible refine Below.setCell ?_ ?_ _); rotate_left; focus (first | (simp; done) | (simp; omega) | omega))))⟩
  · have hbd : decide (4096 < n) = false := decide_eq_false hbig
    have HD := Lib.hid (fun (w' : World) (hb : Below w.heap.size w w') => DrawFormatShare_any A n c bs w.heap.size w' (HR.out.below hb) hb.size (by omega))
    go_enter Try.func9, Try.ntmps9
    go_wp2_with first | (go_at_call 26; go_call (big_any _ _ _ _) as e0 w0 ⟨rfl, hb0⟩; obtain ⟨hc0, hf0⟩ := bcell hb0; have hB0 : Below w.heap.size w w0 := (below_then (by first | (go_grown; done) | (repeat (first | (with_reducible assumption) | (with_reducible exact Below.refl _ _) | (with_reducible refine below_drewN' ?_ _) | (with_reducible refine Below.drew ?_) | ((with_reducible refine Below.alloc ?_ ?_ _); rotate_left; focus (first | (simp; done) | (simp; omega) | omega)) | ((with_reducible refine Below.setCell ?_ ?_ _); rotate_left; focus (first | (simp; done) | (simp; omega) | omega))))) (by first | omega | (simp; done) | (simp; omega)) hb0))
    have hw0 := hB0.size
    (go_at_call 35; go_call (HD.out _ hB0) as e1 w1 ⟨u1, rfl, ⟨d, l, p, v1, v2, xs, ys, rfl, hfr, ho1, ho2⟩, hb1⟩; obtain ⟨hc1, hf1⟩ := bcell hb1; have hB1 : Below w.heap.size w w1 := (below_then (by first | (go_grown; done) | (repeat (first | (with_reducible assumption) | (with_reducible exact Below.refl _ _) | (with_reducible refine below_drewN' ?_ _) | (with_reducible refine Below.drew ?_) | ((with_reducible refine Below.alloc ?_ ?_ _); rotate_left; focus (first | (simp; done) | (simp; omega) | omega)) | ((with_reducible refine Below.setCell ?_ ?_ _); rotate_left; focus (first | (simp; done) | (simp; omega) | omega))))) (by first | omega | (simp; done) | (simp; omega)) hb1))
    obtain ⟨A1, c1, rfl, hr1⟩ := ho1.2.shape
    obtain ⟨A2, c2, rfl, hr2⟩ := ho2.2.shape
    have hx := ho1.1
    have hy := ho2.1
    have hL := hfr.l
    have hV := share_plain (d := d) (l := l) (p := p) (xs := xs) (ys := ys)
    have s1 := fun (w : World) (B : Nat) (hr : RI w B A1 xs.length xs) (hr' : RI w B A2 ys.length ys) (hB : B ≤ w.heap.size) => FormatShare_any d l p A1 A2 _ c1 _ c2 xs ys w B hr hr' hB (by omega) (by omega) hL
    have s2 := fun (w : World) (B : Nat) (hr : RI w B A1 xs.length xs) (hr' : RI w B A2 ys.length ys) (hB : B ≤ w.heap.size) => sFormatShare_any d l p A1 A2 _ c1 _ c2 xs ys w B hr hr' hB (by omega) (by omega) hL
    have n1 := fun (w : World) (B : Nat) (hr : RI w B A1 xs.length xs) (hB : B ≤ w.heap.size) => NearestFormat_any d l p A1 _ c1 xs w B hr hB (by omega) hL
    have n2 := fun (w : World) (B : Nat) (hr : RI w B A2 ys.length ys) (hB : B ≤ w.heap.size) => NearestFormat_any d l p A2 _ c2 ys w B hr hB (by omega) hL
    generalize shV d l p xs ys = V at hV s1 s2
    generalize shC d l p xs ys = C at hV s1 s2
    generalize nfV d l p xs = V1 at hV n1
    generalize nfC d l p xs = C1 at hV n1
    generalize nfD d l p xs = D1 at n1
    generalize nfV d l p ys = V2 at hV n2
    generalize nfC d l p ys = C2 at hV n2
    generalize nfD d l p ys = D2 at n2
    have S1 := Lib.hid s1
    have S2 := Lib.hid s2
    have N1 := Lib.hid n1
    have N2 := Lib.hid n2
    have HX := Lib.hid (hr1.alloc (Nat.le_refl _) (.cells #[.int .i64 d, .int .i64 l, .int .i64 p] 27))
    have HY := Lib.hid (hr2.alloc (Nat.le_refl _) (.cells #[.int .i64 d, .int .i64 l, .int .i64 p] 27))
    have hs1 : w1.heap.size ≤ (w1.alloc (.cells #[.int .i64 d, .int .i64 l, .int .i64 p] 27)).heap.size := by simp
    have HS1 := Lib.hid hs1
    have h1 : (V != V) = false := by simp
    have h3 : (C != C) = false := by simp
    have hw1 := hB1.size
    clear hs1 s1 s2 n1 n2 hr1 hr2 ho1 ho2 hc0 hf0 hc1 hf1 hfr
    go_wp2_with fail
    (go_at_call 25; go_call (S1.out _ _ HX.out HY.out HS1.out) as e2 w2 ⟨rfl, hb2⟩; obtain ⟨hc2, hf2⟩ := bcell hb2; have hB2 : Below w.heap.size w w2 := (below_then (by first | (go_grown; done) | (repeat (first | (with_reducible assumption) | (with_reducible exact Below.refl _ _) | (with_reducible refine below_drewN' ?_ _) | (with_reducible refine Below.drew ?_) | ((with_reducible refine Below.alloc ?_ ?_ _); rotate_left; focus (first | (simp; done) | (simp; omega) | omega)) | ((with_reducible refine Below.setCell ?_ ?_ _); rotate_left; focus (first | (simp; done) | (simp; omega) | omega))))) (by first | omega | (simp; done) | (simp; omega)) hb2); have hz2a : w.heap.size < w2.heap.size := (by have := hb2.size; first | omega | (simp at this; omega)); have hz2b : w1.heap.size < w2.heap.size := (by have := hb2.size; first | omega | (simp at this; omega)))
    go_wp2_with fail
    (go_at_call 24; go_call (S2.out _ _ (HX.out.below (hb2.mono HS1.out)) (HY.out.below (hb2.mono HS1.out)) (Nat.le_trans HS1.out hb2.size)) as e3 w3 ⟨rfl, hb3⟩; obtain ⟨hc3, hf3⟩ := bcell hb3; have hB3 : Below w.heap.size w w3 := (below_then (by first | (go_grown; done) | (repeat (first | (with_reducible assumption) | (with_reducible exact Below.refl _ _) | (with_reducible refine below_drewN' ?_ _) | (with_reducible refine Below.drew ?_) | ((with_reducible refine Below.alloc ?_ ?_ _); rotate_left; focus (first | (simp; done) | (simp; omega) | omega)) | ((with_reducible refine Below.setCell ?_ ?_ _); rotate_left; focus (first | (simp; done) | (simp; omega) | omega))))) (by first | omega | (simp; done) | (simp; omega)) hb3); have hz3a : w.heap.size < w3.heap.size := (by have := hb3.size; first | omega | (simp at this; omega)); have hz3b : w1.heap.size < w3.heap.size := (by have := hb3.size; first | omega | (simp at this; omega)))
    by_cases hC : C = 0
    · subst hC
      have hV' := hV rfl
      clear hV
      go_wp2_with fail
      (go_at_call 23; go_call (N1.out _ _ ((HX.out.below (hb2.mono HS1.out)).below (hb3.mono (Nat.le_trans HS1.out hb2.size))) (Nat.le_trans HS1.out (Nat.le_trans hb2.size hb3.size))) as e4 w4 ⟨rfl, hb4⟩; obtain ⟨hc4, hf4⟩ := bcell hb4; have hB4 : Below w.heap.size w w4 := (below_then (by first | (go_grown; done) | (repeat (first | (with_reducible assumption) | (with_reducible exact Below.refl _ _) | (with_reducible refine below_drewN' ?_ _) | (with_reducible refine Below.drew ?_) | ((with_reducible refine Below.alloc ?_ ?_ _); rotate_left; focus (first | (simp; done) | (simp; omega) | omega)) | ((with_reducible refine Below.setCell ?_ ?_ _); rotate_left; focus (first | (simp; done) | (simp; omega) | omega))))) (by first | omega | (simp; done) | (simp; omega)) hb4); have hz4a : w.heap.size < w4.heap.size := (by have := hb4.size; first | omega | (simp at this; omega)); have hz4b : w1.heap.size < w4.heap.size := (by have := hb4.size; first | omega | (simp at this; omega)))
      go_wp2_with fail
      (go_at_call 23; go_call (N2.out _ _ (((HY.out.below (hb2.mono HS1.out)).below (hb3.mono (Nat.le_trans HS1.out hb2.size))).below (hb4.mono (Nat.le_trans HS1.out (Nat.le_trans hb2.size hb3.size)))) (Nat.le_trans HS1.out (Nat.le_trans hb2.size (Nat.le_trans hb3.size hb4.size)))) as e5 w5 ⟨rfl, hb5⟩; obtain ⟨hc5, hf5⟩ := bcell hb5; have hB5 : Below w.heap.size w w5 := (below_then (by first | (go_grown; done) | (repeat (first | (with_reducible assumption) | (with_reducible exact Below.refl _ _) | (with_reducible refine below_drewN' ?_ _) | (with_reducible refine Below.drew ?_) | ((with_reducible refine Below.alloc ?_ ?_ _); rotate_left; focus (first | (simp; done) | (simp; omega) | omega)) | ((with_reducible refine Below.setCell ?_ ?_ _); rotate_left; focus (first | (simp; done) | (simp; omega) | omega))))) (by first | omega | (simp; done) | (simp; omega)) hb5); have hz5a : w.heap.size < w5.heap.size := (by have := hb5.size; first | omega | (simp at this; omega)); have hz5b : w1.heap.size < w5.heap.size := (by have := hb5.size; first | omega | (simp at this; omega)))
      have hvv : (V == V) = true := by simp
      rcases hV' with ⟨rfl, rfl⟩ | ⟨rfl, rfl⟩
      · go_wp2_with fail
        go_ret
        exact ⟨rfl, by (repeat (first | (with_reducible assumption) | (with_reducible exact Below.refl _ _) | (with_reducible refine below_drewN' ?_ _) | (with_reducible refine Below.drew ?_) | ((with_reducible refine Below.alloc ?_ ?_ _); rotate_left; focus (first | (simp; done) | (simp; omega) | omega)) | ((with_reducible refine Below.setCell ?_ ?_ _); rotate_left; focus (first | (simp; done) | (simp; omega) | omega))))⟩
      · by_cases g1 : C1 = 0
        · subst g1
          by_cases g2 : V2 = V1
          · subst g2
            go_wp2_with fail
            go_ret
            exact ⟨rfl, by (repeat (first | (with_reducible assumption) | (with_reducible exact Below.refl _ _) | (with_reducible refine below_drewN' ?_ _) | (with_reducible refine Below.drew ?_) | ((with_reducible refine Below.alloc ?_ ?_ _); rotate_left; focus (first | (simp; done) | (simp; omega) | omega)) | ((with_reducible refine Below.setCell ?_ ?_ _); rotate_left; focus (first | (simp; done) | (simp; omega) | omega))))⟩
          · have g2' : (V2 == V1) = false := by simpa using g2
            go_wp2_with fail
            go_ret
            exact ⟨rfl, by (repeat (first | (with_reducible assumption) | (with_reducible exact Below.refl _ _) | (with_reducible refine below_drewN' ?_ _) | (with_reducible refine Below.drew ?_) | ((with_reducible refine Below.alloc ?_ ?_ _); rotate_left; focus (first | (simp; done) | (simp; omega) | omega)) | ((with_reducible refine Below.setCell ?_ ?_ _); rotate_left; focus (first | (simp; done) | (simp; omega) | omega))))⟩
        · have g1' : (C1 == 0) = false := by simpa using g1
          go_wp2_with fail
          go_ret
          exact ⟨rfl, by (repeat (first | (with_reducible assumption) | (with_reducible exact Below.refl _ _) | (with_reducible refine below_drewN' ?_ _) | (with_reducible refine Below.drew ?_) | ((with_reducible refine Below.alloc ?_ ?_ _); rotate_left; focus (first | (simp; done) | (simp; omega) | omega)) | ((with_reducible refine Below.setCell ?_ ?_ _); rotate_left; focus (first | (simp; done) | (simp; omega) | omega))))⟩
    · have hC' : (C != 0) = true := by simpa using hC
      go_wp2_with fail
      go_ret
      exact ⟨rfl, by (repeat (first | (with_reducible assumption) | (with_reducible exact Below.refl _ _) | (with_reducible refine below_drewN' ?_ _) | (with_reducible refine Below.drew ?_) | ((with_reducible refine Below.alloc ?_ ?_ _); rotate_left; focus (first | (simp; done) | (simp; omega) | omega)) | ((with_reducible refine Below.setCell ?_ ?_ _); rotate_left; focus (first | (simp; done) | (simp; omega) | omega))))⟩
set_option maxRecDepth 100000 in
theorem lifted_FnFormatShare (os : Os) (started : os.Started) (H : Type) (enc : TypeId × Value → H) :
    ReturnsInHanded {} Try.checked os 9 .any (Rows.fnFormatShareSpec.pre6 enc Try.prog Try.f9 Rows.fnFormatShareRow.domain false) (Rows.fnFormatShareSpec.post enc Try.prog Try.f9 false true false false) := by
  refine law_lifted (C := Try.checked) (tb := 4) own started (by kernel_rfl) Try.func9
    (ChangeSpec.witness6 (enc := enc) (C := Try.checked) false ⟨#[], #[.slice none 0 0], []⟩ 8 (by kernel_rfl) (by kernel_rfl) (by kernel_rfl) (by kernel_rfl))
    laidOut (by kernel_rfl) rfl rfl Try.underlying4 ?_ ?_
  · intro ds hd
    match ds, hd with
    | [e0], _ => rfl
  · intro W base args ds p hval hA hlt hsz
    have hval1 : ∀ (j : Nat) t v, Try.f9.params[j]? = some t → args[j]? = some v → Value.okWide Try.prog W .any base t v := hval
    have hA1 : DataW.TrodAll enc Try.prog W 0 (fun _ => true) true Try.f9.params.toList args.toList ds p := hA
    have hsz1 : (DataW.weightsEach Try.prog Try.f9.params.toList ds).all (· ≤ reachBytes) = true := hsz
    rw [Try.params9] at hval1 hA1 hsz1
    clear hval hA hsz
    obtain ⟨v0, d0, rfl, rfl, h0⟩ := trodAll_one hA1
    obtain ⟨A, n, c, bs, rfl, hr, _⟩ := arg_bytes Try.underlying42 Try.underlying5 (by kernel_rfl) (hval1 0 42 v0 rfl rfl) h0 (fun x hx => hlt x (by simp [hx]))
    exact lawFnFormatShare A n c bs W hr
theorem holds_FnFormatShare : Rows.FnFormatShareSaid :=
  OpenClaim.holds_of_wide 9 Try.f9 rfl rfl rfl rfl rfl rfl rfl ⟨rfl, rfl, rfl, rfl, rfl⟩ rfl rfl rfl rfl rfl (by kernel_rfl) Try.func9 (by kernel_rfl)
    (of_decide_eq_true (by kernel_rfl)) (by unfold Func.isWrapper; first | (rw [if_pos (by decide +kernel)]; kernel_rfl) | (rw [if_neg (by decide +kernel)]; exact ⟨rfl, rfl⟩))
    (fun os started H enc _ => lifted_FnFormatShare os started H enc)

end Go.Proofs.Ytkdaodfhilhfgaa
