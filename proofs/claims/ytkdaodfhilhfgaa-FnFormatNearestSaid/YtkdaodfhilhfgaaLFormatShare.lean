/-
  The row FnExactFormatShare: for every format code and every two lists the program's FormatShare returns what the reference's returns, and leaves the lists as they were; no condition.
-/
import Derived.Test.YtkdaodfhilhfgaaArgS
import Derived.Test.YtkdaodfhilhfgaaC08U
import Derived.Test.YtkdaodfhilhfgaaToS
namespace Go.Proofs.Ytkdaodfhilhfgaa
open Go.ChangeShapes Go.WideShapes Go.ChangeAt Go.RowKit

theorem FormatShare_any (d l p : Int) (A A' : Option Addr) (n c n' c' : Nat) (xs ys : List Int) (w : World) (B : Nat) (hr : RI w B A n xs) (hr' : RI w B A' n' ys) (hB : B ≤ w.heap.size) (hn : n ≤ 1000000000000000) (hn' : n' ≤ 1000000000000000) (hl : -9223372036854775808 ≤ l ∧ l ≤ 9223372036854775807) :
    Calls Try.prog 25 #[.agg #[.int .i64 d, .int .i64 l, .int .i64 p], .slice A n c, .slice A' n' c'] w fun e w' =>
      e = .returned (.tuple #[.int .i64 (shV d l p xs ys), .int .i64 (shC d l p xs ys)]) ∧ Below w.heap.size w w' := by
  cases hc : fcodeB d l p
  · have e1 : shV d l p xs ys = 0 := by unfold shV; simp [hc]
    have e2 : shC d l p xs ys = 1 := by unfold shC; simp [hc]
    rw [e1, e2]
    clear e1 e2
    set_option maxHeartbeats 1000000 in
    go_enter Try.func25, Try.ntmps25
    go_wp2_with (go_at_call 29; go_call (IsFormatCode_any _ _ _ _ hl) as e1 w1 ⟨rfl, hb1⟩; obtain ⟨hc1, hf1⟩ := bcell hb1; have hB1 : Below w.heap.size w w1 := (below_then (by first | (go_grown; done) | (repeat (first | (with_reducible assumption) | (with_reducible exact Below.refl _ _) | (with_reducible refine below_drewN' ?_ _) | (with_reducible refine Below.drew ?_) | ((with_reducible refine Below.alloc ?_ ?_ _); rotate_left; focus (first | (simp; done) | (simp; omega) | omega)) | ((with_reducible refine Below.setCell ?_ ?_ _); rotate_left; focus (first | (simp; done) | (simp; omega) | omega))))) (by first | omega | (simp; done) | (simp; omega)) hb1); have hz1a : w.heap.size < w1.heap.size := (by have := hb1.size; first | omega | (simp at this; omega)))
    go_returns
    exact ⟨rfl, hB1⟩
  · have hns := fun (w' : World) (hb : Below B w w') => nearest_ok (c := c) hc hn w' (hr.below hb) (by have := hb.size; omega)
    have hns' := fun (w' : World) (hb : Below B w w') => nearest_ok (c := c') hc hn' w' (hr'.below hb) (by have := hb.size; omega)
    unfold shV shC
    rcases nr_cases xs hc with ⟨hx, e1, e2, e3, e4⟩ | ⟨hx, e1, e2, e3, b1, b2, ⟨ho, e4⟩ | ⟨ho, e4⟩⟩ <;> rw [e1, e2, e3, e4] at hns <;>
      rcases nr_cases ys hc with ⟨hx', f1, f2, f3, f4⟩ | ⟨hx', f1, f2, f3, b1', b2', ⟨ho', f4⟩ | ⟨ho', f4⟩⟩ <;> rw [f1, f2, f3, f4] at hns'
    · have h := fs_2_2 d l p A A' n c n' c' 0 0 0 0 0 0 w B hB hl hc hns hns'
      simpa [hc, hx, hx'] using h
    · have h := fs_2_7 d l p A A' n c n' c' 0 0 0 _ _ _ w B hB hl hc hns hns'
      simpa [hc, hx, hx'] using h
    · have h := fs_2_0 d l p A A' n c n' c' 0 0 0 _ _ _ w B hB hl hc hns hns'
      simpa [hc, hx, hx'] using h
    · have h := fs_7_2 d l p A A' n c n' c' _ _ _ 0 0 0 w B hB hl hc hns hns'
      simpa [hc, hx, hx'] using h
    · have h := fs_7_7 d l p A A' n c n' c' _ _ _ _ _ _ w B hB hl hc hns hns'
      simpa [hc, hx, hx', ho, ho', pick2] using h
    · have h := fs_7_0 d l p A A' n c n' c' _ _ _ _ _ _ w B hB hl hc hns hns'
      simpa [hc, hx, hx', ho, ho', pick2] using h
    · have h := fs_0_2 d l p A A' n c n' c' _ _ _ 0 0 0 w B hB hl hc hns hns'
      simpa [hc, hx, hx'] using h
    · have h := fs_0_7 d l p A A' n c n' c' _ _ _ _ _ _ w B hB hl hc hns hns'
      simpa [hc, hx, hx', ho, ho', pick2] using h
    · have h := fs_0_0 d l p A A' n c n' c' _ _ _ _ _ _ w B hB hl hc b1 b2 b1' b2' hns hns'
      simpa [hc, hx, hx', ho, ho'] using h
set_option maxHeartbeats 2000000 in
theorem lawFormatShare (d l p : Int) (A A' : Option Addr) (n c n' c' : Nat) (xs ys : List Int) (w : World) (hr : RI w w.heap.size A n xs) (hr' : RI w w.heap.size A' n' ys) (hl : -9223372036854775808 ≤ l ∧ l ≤ 9223372036854775807) :
    Calls Try.prog 7 #[.agg #[.int .i64 d, .int .i64 l, .int .i64 p], .slice A n c, .slice A' n' c'] w fun e' w' =>
      e' = .returned (.bool true) ∧ Below w.heap.size w w' := by
  have HLN := Lib.hid hr.len
  have HLN' := Lib.hid hr'.len
  have HR := Lib.hid hr
  have HR' := Lib.hid hr'
  clear hr hr'
  by_cases hbig : n ≤ 1048576
  · by_cases hbig' : n' ≤ 1048576
    · have s1 := fun (A A' : Option Addr) (c c' : Nat) (w : World) (B : Nat) (hr : RI w B A n xs) (hr' : RI w B A' n' ys) (hB : B ≤ w.heap.size) => sFormatShare_any d l p A A' n c n' c' xs ys w B hr hr' hB (by omega) (by omega) hl
      have s2 := fun (A A' : Option Addr) (c c' : Nat) (w : World) (B : Nat) (hr : RI w B A n xs) (hr' : RI w B A' n' ys) (hB : B ≤ w.heap.size) => FormatShare_any d l p A A' n c n' c' xs ys w B hr hr' hB (by omega) (by omega) hl
      generalize shV d l p xs ys = V at s1 s2
      generalize shC d l p xs ys = C at s1 s2
      have S1 := Lib.hid s1
      have S2 := Lib.hid s2
      clear s1 s2
      have h1 : (V != V) = false := by simp
      have h3 : (C != C) = false := by simp
      have hLL : (xs == xs) = true := by simp
      have hLL' : (ys == ys) = true := by simp
      have HT := Lib.hid (fun w' (hb : Below w.heap.size w w') => toInt64S_any A n c xs w' w.heap.size (HR.out.below hb) hb.size (by omega))
      have HT' := Lib.hid (fun w' (hb : Below w.heap.size w w') => toInt64S_any A' n' c' ys w' w.heap.size (HR'.out.below hb) hb.size (by omega))
      go_enter Try.func7, Try.ntmps7
      go_wp2_with fail
      (go_at_call 12; go_call (toFormatCode_any d l p _) as e1 w1 ⟨rfl, hb1⟩; obtain ⟨hc1, hf1⟩ := bcell hb1; have hB1 : Below w.heap.size w w1 := (below_then (by first | (go_grown; done) | (repeat (first | (with_reducible assumption) | (with_reducible exact Below.refl _ _) | (with_reducible refine below_drewN' ?_ _) | (with_reducible refine Below.drew ?_) | ((with_reducible refine Below.alloc ?_ ?_ _); rotate_left; focus (first | (simp; done) | (simp; omega) | omega)) | ((with_reducible refine Below.setCell ?_ ?_ _); rotate_left; focus (first | (simp; done) | (simp; omega) | omega))))) (by first | omega | (simp; done) | (simp; omega)) hb1); have hz1a : w.heap.size < w1.heap.size := (by have := hb1.size; first | omega | (simp at this; omega)))
      go_wp2_with fail
      (go_at_call 22; go_call (HT.out _ hB1) as e2 w2 ⟨v2, rfl, ho2, hb2⟩; obtain ⟨hc2, hf2⟩ := bcell hb2; have hB2 : Below w.heap.size w w2 := (below_then (by first | (go_grown; done) | (repeat (first | (with_reducible assumption) | (with_reducible exact Below.refl _ _) | (with_reducible refine below_drewN' ?_ _) | (with_reducible refine Below.drew ?_) | ((with_reducible refine Below.alloc ?_ ?_ _); rotate_left; focus (first | (simp; done) | (simp; omega) | omega)) | ((with_reducible refine Below.setCell ?_ ?_ _); rotate_left; focus (first | (simp; done) | (simp; omega) | omega))))) (by first | omega | (simp; done) | (simp; omega)) hb2); have hz2a : w.heap.size < w2.heap.size := (by have := hb2.size; first | omega | (simp at this; omega)))
      obtain ⟨A2, c2, rfl, hr2⟩ := ho2.shape
      rw [HLN.out] at hr2 ⊢
      have HR2 := Lib.hid hr2
      clear ho2 hr2
      go_wp2_with fail
      (go_at_call 22; go_call (HT'.out _ hB2) as e3 w3 ⟨v3, rfl, ho3, hb3⟩; obtain ⟨hc3, hf3⟩ := bcell hb3; have hB3 : Below w.heap.size w w3 := (below_then (by first | (go_grown; done) | (repeat (first | (with_reducible assumption) | (with_reducible exact Below.refl _ _) | (with_reducible refine below_drewN' ?_ _) | (with_reducible refine Below.drew ?_) | ((with_reducible refine Below.alloc ?_ ?_ _); rotate_left; focus (first | (simp; done) | (simp; omega) | omega)) | ((with_reducible refine Below.setCell ?_ ?_ _); rotate_left; focus (first | (simp; done) | (simp; omega) | omega))))) (by first | omega | (simp; done) | (simp; omega)) hb3); have hz3a : w.heap.size < w3.heap.size := (by have := hb3.size; first | omega | (simp at this; omega)))
      obtain ⟨A3, c3, rfl, hr3⟩ := ho3.shape
      rw [HLN'.out] at hr3 ⊢
      have HR3 := Lib.hid hr3
      have HR2' := Lib.hid ((HR2.out.below hb3).more hb3.size)
      clear ho3 hr3
      go_wp2_with fail
      (go_at_call 24; go_call (S1.out _ _ _ _ _ _ HR2'.out HR3.out (Nat.le_refl _)) as e4 w4 ⟨rfl, hb4⟩; obtain ⟨hc4, hf4⟩ := bcell hb4; have hB4 : Below w.heap.size w w4 := (below_then (by first | (go_grown; done) | (repeat (first | (with_reducible assumption) | (with_reducible exact Below.refl _ _) | (with_reducible refine below_drewN' ?_ _) | (with_reducible refine Below.drew ?_) | ((with_reducible refine Below.alloc ?_ ?_ _); rotate_left; focus (first | (simp; done) | (simp; omega) | omega)) | ((with_reducible refine Below.setCell ?_ ?_ _); rotate_left; focus (first | (simp; done) | (simp; omega) | omega))))) (by first | omega | (simp; done) | (simp; omega)) hb4); have hz4a : w.heap.size < w4.heap.size := (by have := hb4.size; first | omega | (simp at this; omega)))
      go_wp2_with fail
      (go_at_call 22; go_call (HT.out _ hB4) as e5 w5 ⟨v5, rfl, ho5, hb5⟩; obtain ⟨hc5, hf5⟩ := bcell hb5; have hB5 : Below w.heap.size w w5 := (below_then (by first | (go_grown; done) | (repeat (first | (with_reducible assumption) | (with_reducible exact Below.refl _ _) | (with_reducible refine below_drewN' ?_ _) | (with_reducible refine Below.drew ?_) | ((with_reducible refine Below.alloc ?_ ?_ _); rotate_left; focus (first | (simp; done) | (simp; omega) | omega)) | ((with_reducible refine Below.setCell ?_ ?_ _); rotate_left; focus (first | (simp; done) | (simp; omega) | omega))))) (by first | omega | (simp; done) | (simp; omega)) hb5); have hz5a : w.heap.size < w5.heap.size := (by have := hb5.size; first | omega | (simp at this; omega)))
      obtain ⟨A5, c5, rfl, hr5⟩ := ho5.shape
      rw [HLN.out] at hr5 ⊢
      have HR5 := Lib.hid hr5
      clear ho5 hr5
      go_wp2_with fail
      (go_at_call 22; go_call (HT'.out _ hB5) as e6 w6 ⟨v6, rfl, ho6, hb6⟩; obtain ⟨hc6, hf6⟩ := bcell hb6; have hB6 : Below w.heap.size w w6 := (below_then (by first | (go_grown; done) | (repeat (first | (with_reducible assumption) | (with_reducible exact Below.refl _ _) | (with_reducible refine below_drewN' ?_ _) | (with_reducible refine Below.drew ?_) | ((with_reducible refine Below.alloc ?_ ?_ _); rotate_left; focus (first | (simp; done) | (simp; omega) | omega)) | ((with_reducible refine Below.setCell ?_ ?_ _); rotate_left; focus (first | (simp; done) | (simp; omega) | omega))))) (by first | omega | (simp; done) | (simp; omega)) hb6); have hz6a : w.heap.size < w6.heap.size := (by have := hb6.size; first | omega | (simp at this; omega)))
      obtain ⟨A6, c6, rfl, hr6⟩ := ho6.shape
      rw [HLN'.out] at hr6 ⊢
      have HR6 := Lib.hid hr6
      have HR5' := Lib.hid ((HR5.out.below hb6).more hb6.size)
      clear ho6 hr6
      go_wp2_with fail
      (go_at_call 12; go_call (toFormatCode_any d l p _) as e7 w7 ⟨rfl, hb7⟩; obtain ⟨hc7, hf7⟩ := bcell hb7; have hB7 : Below w.heap.size w w7 := (below_then (by first | (go_grown; done) | (repeat (first | (with_reducible assumption) | (with_reducible exact Below.refl _ _) | (with_reducible refine below_drewN' ?_ _) | (with_reducible refine Below.drew ?_) | ((with_reducible refine Below.alloc ?_ ?_ _); rotate_left; focus (first | (simp; done) | (simp; omega) | omega)) | ((with_reducible refine Below.setCell ?_ ?_ _); rotate_left; focus (first | (simp; done) | (simp; omega) | omega))))) (by first | omega | (simp; done) | (simp; omega)) hb7); have hz7a : w.heap.size < w7.heap.size := (by have := hb7.size; first | omega | (simp at this; omega)))
      have hs7 := hb7.size
      have HR6a := Lib.hid (HR6.out.below hb7)
      have HR5a := Lib.hid (HR5'.out.below hb7)
      go_wp2_with fail
      (go_at_call 25; go_call (S2.out _ _ _ _ _ _ HR5a.out HR6a.out hs7) as e8 w8 ⟨rfl, hb8⟩; obtain ⟨hc8, hf8⟩ := bcell hb8; have hB8 : Below w.heap.size w w8 := (below_then (by first | (go_grown; done) | (repeat (first | (with_reducible assumption) | (with_reducible exact Below.refl _ _) | (with_reducible refine below_drewN' ?_ _) | (with_reducible refine Below.drew ?_) | ((with_reducible refine Below.alloc ?_ ?_ _); rotate_left; focus (first | (simp; done) | (simp; omega) | omega)) | ((with_reducible refine Below.setCell ?_ ?_ _); rotate_left; focus (first | (simp; done) | (simp; omega) | omega))))) (by first | omega | (simp; done) | (simp; omega)) hb8); have hz8a : w.heap.size < w8.heap.size := (by have := hb8.size; first | omega | (simp at this; omega)))
      have hs8 := hb8.size
      have HR6b := Lib.hid (HR6a.out.below (hb8.mono hs7))
      have HR5b := Lib.hid (HR5a.out.below (hb8.mono hs7))
      go_wp2_with fail
      (go_at_call 22; go_call (HT.out _ hB8) as e9 w9 ⟨v9, rfl, ho9, hb9⟩; obtain ⟨hc9, hf9⟩ := bcell hb9; have hB9 : Below w.heap.size w w9 := (below_then (by first | (go_grown; done) | (repeat (first | (with_reducible assumption) | (with_reducible exact Below.refl _ _) | (with_reducible refine below_drewN' ?_ _) | (with_reducible refine Below.drew ?_) | ((with_reducible refine Below.alloc ?_ ?_ _); rotate_left; focus (first | (simp; done) | (simp; omega) | omega)) | ((with_reducible refine Below.setCell ?_ ?_ _); rotate_left; focus (first | (simp; done) | (simp; omega) | omega))))) (by first | omega | (simp; done) | (simp; omega)) hb9); have hz9a : w.heap.size < w9.heap.size := (by have := hb9.size; first | omega | (simp at this; omega)))
      obtain ⟨A9, c9, rfl, hr9⟩ := ho9.shape
      rw [HLN.out] at hr9 ⊢
      have hs9 := hb9.size
      have HR6c := Lib.hid (HR6b.out.below (hb9.mono (Nat.le_trans hs7 hs8)))
      have HR5c := Lib.hid (HR5b.out.below (hb9.mono (Nat.le_trans hs7 hs8)))
      go_wp2_with fail
      refine (eqInt64S_any A5 A9 n n c5 c9 xs xs _ _ _ HR5c.out hr9 (by omega) (by omega)).mono ?_
      rintro e10 w10 ⟨rfl, m10, rfl⟩
      have hB10 : Below w.heap.size w (w9.drewN m10) := below_drewN' hB9 m10
      clear ho9 hr9
      go_wp2_with fail
      (go_at_call 22; go_call (HT'.out _ hB10) as e11 w11 ⟨v11, rfl, ho11, hb11⟩; obtain ⟨hc11, hf11⟩ := bcell hb11; have hB11 : Below w.heap.size w w11 := (below_then (by first | (go_grown; done) | (repeat (first | (with_reducible assumption) | (with_reducible exact Below.refl _ _) | (with_reducible refine below_drewN' ?_ _) | (with_reducible refine Below.drew ?_) | ((with_reducible refine Below.alloc ?_ ?_ _); rotate_left; focus (first | (simp; done) | (simp; omega) | omega)) | ((with_reducible refine Below.setCell ?_ ?_ _); rotate_left; focus (first | (simp; done) | (simp; omega) | omega))))) (by first | omega | (simp; done) | (simp; omega)) hb11); have hz11a : w.heap.size < w11.heap.size := (by have := hb11.size; first | omega | (simp at this; omega)))
      obtain ⟨A11, c11, rfl, hr11⟩ := ho11.shape
      rw [HLN'.out] at hr11 ⊢
      have HR6d := Lib.hid ((HR6c.out.drewN m10).below (hb11.mono (Nat.le_trans hs7 (Nat.le_trans hs8 hs9))))
      go_wp2_with fail
      refine (eqInt64S_any A6 A11 n' n' c6 c11 ys ys _ _ _ HR6d.out hr11 (by omega) (by omega)).mono ?_
      rintro e12 w12 ⟨rfl, m12, rfl⟩
      go_wp2_with fail
      go_ret
      exact ⟨rfl, below_drewN' hB11 _⟩
    · go_enter Try.func7, Try.ntmps7
      go_wp2_with fail
      go_ret
      exact ⟨rfl, by go_grown⟩
  · go_enter Try.func7, Try.ntmps7
    go_wp2_with fail
    go_ret
    exact ⟨rfl, by go_grown⟩
set_option maxRecDepth 100000 in
theorem lifted_FnExactFormatShare (os : Os) (started : os.Started) (H : Type) (enc : TypeId × Value → H) :
    ReturnsInHanded {} Try.checked os 7 .any (Rows.fnExactFormatShareSpec.pre6 enc Try.prog Try.f7 Rows.fnExactFormatShareRow.domain false) (Rows.fnExactFormatShareSpec.post enc Try.prog Try.f7 false true false false) := by
  refine law_lifted (C := Try.checked) (tb := 4) own started (by kernel_rfl) Try.func7
    (ChangeSpec.witness6 (enc := enc) (C := Try.checked) false ⟨#[], #[.agg #[.int .i64 0, .int .i64 0, .int .i64 0], .slice none 0 0, .slice none 0 0], []⟩ 8 (by kernel_rfl) (by kernel_rfl) (by kernel_rfl) (by kernel_rfl))
    laidOut (by kernel_rfl) rfl rfl Try.underlying4 ?_ ?_
  · intro ds hd
    match ds, hd with
    | [e0, e1, e2], _ => rfl
  · intro W base args ds p hval hA hlt hsz
    have hval1 : ∀ (j : Nat) t v, Try.f7.params[j]? = some t → args[j]? = some v → Value.okWide Try.prog W .any base t v := hval
    have hA1 : DataW.TrodAll enc Try.prog W 0 (fun _ => true) true Try.f7.params.toList args.toList ds p := hA
    have hsz1 : (DataW.weightsEach Try.prog Try.f7.params.toList ds).all (· ≤ reachBytes) = true := hsz
    rw [Try.params7] at hval1 hA1 hsz1
    clear hval hA hsz
    obtain ⟨v0, v1, v2, d0, d1, d2, p0, p1, p2, rfl, rfl, rfl, h0, h1, h2⟩ := trodAll_three hA1
    obtain ⟨xs, hl, rfl, hb⟩ := ok_agg_ints (n := 3) (e := 2) Try.underlying23 (by kernel_rfl) (by kernel_rfl) Try.underlying2 (hval1 0 23 v0 rfl rfl)
    obtain ⟨A, n, c, ys, rfl, hr, _, _⟩ := arg_ints Try.underlying24 Try.underlying2 (by kernel_rfl) (hval1 1 24 v1 rfl rfl) h1 (fun x hx => hlt x (by simp [hx]))
    obtain ⟨A', n', c', zs, rfl, hr', _, _⟩ := arg_ints Try.underlying24 Try.underlying2 (by kernel_rfl) (hval1 2 24 v2 rfl rfl) h2 (fun x hx => hlt x (by simp [hx]))
    match xs, hl, hb with
    | [d, l, p], _, hb => exact lawFormatShare d l p A A' n c n' c' ys zs W hr hr' (hb l (by simp))
theorem holds_FnExactFormatShare : Rows.FnExactFormatShareSaid :=
  OpenClaim.holds_of_wide 7 Try.f7 rfl rfl rfl rfl rfl rfl rfl ⟨rfl, rfl, rfl, rfl, rfl⟩ rfl rfl rfl rfl rfl (by kernel_rfl) Try.func7 (by kernel_rfl)
    (of_decide_eq_true (by kernel_rfl)) (by unfold Func.isWrapper; first | (rw [if_pos (by decide +kernel)]; kernel_rfl) | (rw [if_neg (by decide +kernel)]; exact ⟨rfl, rfl⟩))
    (fun os started H enc _ => lifted_FnExactFormatShare os started H enc)

end Go.Proofs.Ytkdaodfhilhfgaa
