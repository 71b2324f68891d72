/-
  The row FnExactReadFormat: for every grid the program's ReadFormat returns what the reference's returns, and leaves the grid as it was; no condition.
-/
import Derived.Test.YtgokleeofcleiaaArgG
import Derived.Test.YtgokleeofcleiaaC14D
namespace Go.Proofs.Ytgokleeofcleiaa
open Go.ChangeShapes Go.WideShapes Go.ChangeAt Go.RowKit Go.Deep

set_option maxRecDepth 20000 in
set_option maxHeartbeats 2000000 in
theorem lawReadFormat (r c : Int) (A : Option Addr) (n cp : Nat) (xs : List Int) (w : World) (hr : RI w w.heap.size A n xs) (hn2 : n ≤ 9223372036854775807) :
    Calls Try.prog 9 #[.agg #[.int .i64 r, .int .i64 c, .slice A n cp]] w fun e' w' => e' = .returned (.bool true) ∧ Below w.heap.size w w' := by
  have HLN := Lib.hid hr.len
  have HR := Lib.hid hr
  clear hr
  by_cases hbig : n ≤ 1048576
  · have s1 := fun (A : Option Addr) (cp : Nat) (w : World) (B : Nat) (hr : RI w B A n xs) (hB : B ≤ w.heap.size) => sReadFormat_any r c A n cp xs w B hr hB (by omega)
    have s2 := fun (A : Option Addr) (cp : Nat) (w : World) (B : Nat) (hr : RI w B A n xs) (hB : B ≤ w.heap.size) => ReadFormat_any r c A n cp xs w B hr hB (by omega)
    generalize rfV r c xs = V at s1 s2
    generalize rfC r c xs = C at s1 s2
    have S1 := Lib.hid s1
    have S2 := Lib.hid s2
    clear s1 s2
    have h1 : (V != V) = false := by simp
    have h3 : (C != C) = false := by simp
    have HT := Lib.hid (fun w' (hb : Below w.heap.size w w') => toGrid_any r c A n cp xs w' w.heap.size (HR.out.below hb) hb.size (by omega))
    go_enter Try.func9, Try.ntmps9
    go_wp2_with (go_at_call 13; go_call (szGrid_ok _ _ _ _ _ 1048576 _ hbig (by omega)) as e0 w0 ⟨rfl, hb0⟩; obtain ⟨hc0, hf0⟩ := bcell hb0; have hB0 : Below w.heap.size w w0 := (below_then (by first | (go_grown; done) | (repeat (first | (with_reducible assumption) | (with_reducible exact Below.refl _ _) | (with_reducible refine below_drewN' ?_ _) | (with_reducible refine Below.drew ?_) | ((with_reducible refine Below.alloc ?_ ?_ _); rotate_left; focus (first | (simp; done) | (simp; omega) | omega)) | ((with_reducible refine Below.setCell ?_ ?_ _); rotate_left; focus (first | (simp; done) | (simp; omega) | omega))))) (by first | omega | (simp; done) | (simp; omega)) hb0); have hz0a : w.heap.size < w0.heap.size := (by have := hb0.size; first | omega | (simp at this; omega)))
    (go_at_call 15; go_call (HT.out _ hB0) as e1 w1 ⟨v1, rfl, ho1, hb1⟩; obtain ⟨hc1, hf1⟩ := bcell hb1; have hB1 : Below w.heap.size w w1 := (below_then (by first | (go_grown; done) | (repeat (first | (with_reducible assumption) | (with_reducible exact Below.refl _ _) | (with_reducible refine below_drewN' ?_ _) | (with_reducible refine Below.drew ?_) | ((with_reducible refine Below.alloc ?_ ?_ _); rotate_left; focus (first | (simp; done) | (simp; omega) | omega)) | ((with_reducible refine Below.setCell ?_ ?_ _); rotate_left; focus (first | (simp; done) | (simp; omega) | omega))))) (by first | omega | (simp; done) | (simp; omega)) hb1); have hz1a : w.heap.size < w1.heap.size := (by have := hb1.size; first | omega | (simp at this; omega)))
    obtain ⟨A1, c1, rfl, hr1⟩ := ho1.shape
    rw [HLN.out] at hr1 ⊢
    have HR1 := Lib.hid hr1
    clear ho1 hr1
    go_wp2_with fail
    (go_at_call 34; go_call (S1.out _ _ _ _ HR1.out (Nat.le_refl _)) as e2 w2 ⟨rfl, hb2⟩; obtain ⟨hc2, hf2⟩ := bcell hb2; have hB2 : Below w.heap.size w w2 := (below_then (by first | (go_grown; done) | (repeat (first | (with_reducible assumption) | (with_reducible exact Below.refl _ _) | (with_reducible refine below_drewN' ?_ _) | (with_reducible refine Below.drew ?_) | ((with_reducible refine Below.alloc ?_ ?_ _); rotate_left; focus (first | (simp; done) | (simp; omega) | omega)) | ((with_reducible refine Below.setCell ?_ ?_ _); rotate_left; focus (first | (simp; done) | (simp; omega) | omega))))) (by first | omega | (simp; done) | (simp; omega)) hb2); have hz2a : w.heap.size < w2.heap.size := (by have := hb2.size; first | omega | (simp at this; omega)))
    go_wp2_with fail
    (go_at_call 15; go_call (HT.out _ hB2) as e3 w3 ⟨v3, rfl, ho3, hb3⟩; obtain ⟨hc3, hf3⟩ := bcell hb3; have hB3 : Below w.heap.size w w3 := (below_then (by first | (go_grown; done) | (repeat (first | (with_reducible assumption) | (with_reducible exact Below.refl _ _) | (with_reducible refine below_drewN' ?_ _) | (with_reducible refine Below.drew ?_) | ((with_reducible refine Below.alloc ?_ ?_ _); rotate_left; focus (first | (simp; done) | (simp; omega) | omega)) | ((with_reducible refine Below.setCell ?_ ?_ _); rotate_left; focus (first | (simp; done) | (simp; omega) | omega))))) (by first | omega | (simp; done) | (simp; omega)) hb3); have hz3a : w.heap.size < w3.heap.size := (by have := hb3.size; first | omega | (simp at this; omega)))
    obtain ⟨A3, c3, rfl, hr3⟩ := ho3.shape
    rw [HLN.out] at hr3 ⊢
    have HR3 := Lib.hid hr3
    clear ho3 hr3
    go_wp2_with fail
    (go_at_call 35; go_call (S2.out _ _ _ _ (HR3.out.alloc (Nat.le_refl _) _) (by simp)) as e4 w4 ⟨rfl, hb4⟩; obtain ⟨hc4, hf4⟩ := bcell hb4; have hB4 : Below w.heap.size w w4 := (below_then (by first | (go_grown; done) | (repeat (first | (with_reducible assumption) | (with_reducible exact Below.refl _ _) | (with_reducible refine below_drewN' ?_ _) | (with_reducible refine Below.drew ?_) | ((with_reducible refine Below.alloc ?_ ?_ _); rotate_left; focus (first | (simp; done) | (simp; omega) | omega)) | ((with_reducible refine Below.setCell ?_ ?_ _); rotate_left; focus (first | (simp; done) | (simp; omega) | omega))))) (by first | omega | (simp; done) | (simp; omega)) hb4); have hz4a : w.heap.size < w4.heap.size := (by have := hb4.size; first | omega | (simp at this; omega)); have hz4b : w3.heap.size < w4.heap.size := (by have := hb4.size; first | omega | (simp at this; omega)))
    have HR4 := Lib.hid (HR3.out.below ((by go_grown : Below w3.heap.size w3 _).trans (hb4.mono (by simp))))
    go_wp2_with fail
    have k0 : w4.cell? ⟨w3.heap.size, 0, none⟩ = some (.int .i64 r) := (hc4 w3.heap.size 0 (by simp)).trans (by go_simp)
    have k1 : w4.cell? ⟨w3.heap.size, 1, none⟩ = some (.int .i64 c) := (hc4 w3.heap.size 1 (by simp)).trans (by go_simp)
    have k2 : w4.cell? ⟨w3.heap.size, 2, none⟩ = some (.slice A3 n c3) := (hc4 w3.heap.size 2 (by simp)).trans (by go_simp)
    have ga : ∀ k, w4.cell? ⟨w.heap.size, k, none⟩ = (w.alloc (.cells #[.int .i64 r, .int .i64 c, .slice A n cp] 24)).cell? ⟨w.heap.size, k, none⟩ := fun k => by
      rw [hc4 _ _ (by simp; omega), World.cell?_alloc_lt _ _ _ (by simp; omega), hc3 _ _ (by omega), hc2 _ _ (by omega), hc1 _ _ (by omega), hc0 _ _ (by simp)]
    have g0 : w4.cell? ⟨w.heap.size, 0, none⟩ = some (.int .i64 r) := (ga 0).trans (by go_simp)
    have g1 : w4.cell? ⟨w.heap.size, 1, none⟩ = some (.int .i64 c) := (ga 1).trans (by go_simp)
    have g2 : w4.cell? ⟨w.heap.size, 2, none⟩ = some (.slice A n cp) := (ga 2).trans (by go_simp)
    clear ga hc0 hc1 hc2 hc3 hf0 hf1 hf2 hf3 hc4 hf4
    go_region_held3 (fun w' => (w'.cell? ⟨w3.heap.size, 0, none⟩ = some (.int .i64 r) ∧ w'.cell? ⟨w3.heap.size, 1, none⟩ = some (.int .i64 c) ∧ w'.cell? ⟨w3.heap.size, 2, none⟩ = some (.slice A3 n c3)) ∧
        w'.cell? ⟨w.heap.size, 0, none⟩ = some (.int .i64 r) ∧ w'.cell? ⟨w.heap.size, 1, none⟩ = some (.int .i64 c) ∧ w'.cell? ⟨w.heap.size, 2, none⟩ = some (.slice A n cp))
      (first | (exact ⟨⟨k0, k1, k2⟩, g0, g1, g2⟩) | (exact ⟨⟨(hc6 _ _ (by first | omega | (simp; omega))).trans ((hc5 _ _ (by first | omega | (simp; omega))).trans k0), (hc6 _ _ (by first | omega | (simp; omega))).trans ((hc5 _ _ (by first | omega | (simp; omega))).trans k1), (hc6 _ _ (by first | omega | (simp; omega))).trans ((hc5 _ _ (by first | omega | (simp; omega))).trans k2)⟩, (hc6 _ _ (by first | omega | (simp; omega))).trans ((hc5 _ _ (by first | omega | (simp; omega))).trans g0), (hc6 _ _ (by first | omega | (simp; omega))).trans ((hc5 _ _ (by first | omega | (simp; omega))).trans g1), (hc6 _ _ (by first | omega | (simp; omega))).trans ((hc5 _ _ (by first | omega | (simp; omega))).trans g2)⟩) | (exact ⟨⟨(hc5 _ _ (by first | omega | (simp; omega))).trans k0, (hc5 _ _ (by first | omega | (simp; omega))).trans k1, (hc5 _ _ (by first | omega | (simp; omega))).trans k2⟩, (hc5 _ _ (by first | omega | (simp; omega))).trans g0, (hc5 _ _ (by first | omega | (simp; omega))).trans g1, (hc5 _ _ (by first | omega | (simp; omega))).trans g2⟩) | go_keep)
      (first
        | ((go_at_call 15; go_call (HT.out _ (by (repeat (first | (with_reducible assumption) | (with_reducible exact Below.refl _ _) | (with_reducible refine below_drewN' ?_ _) | (with_reducible refine Below.drew ?_) | ((with_reducible refine Below.alloc ?_ ?_ _); rotate_left; focus (first | (simp; done) | (simp; omega) | omega)) | ((with_reducible refine Below.setCell ?_ ?_ _); rotate_left; focus (first | (simp; done) | (simp; omega) | omega)))))) as e5 w5 ⟨v5, rfl, ho5, hb5⟩; obtain ⟨hc5, hf5⟩ := bcell hb5; have hB5 : Below w.heap.size w w5 := (below_then (by first | (go_grown; done) | (repeat (first | (with_reducible assumption) | (with_reducible exact Below.refl _ _) | (with_reducible refine below_drewN' ?_ _) | (with_reducible refine Below.drew ?_) | ((with_reducible refine Below.alloc ?_ ?_ _); rotate_left; focus (first | (simp; done) | (simp; omega) | omega)) | ((with_reducible refine Below.setCell ?_ ?_ _); rotate_left; focus (first | (simp; done) | (simp; omega) | omega))))) (by first | omega | (simp; done) | (simp; omega)) hb5); have hz5a : w.heap.size < w5.heap.size := (by have := hb5.size; first | omega | (simp at this; omega)); have hz5b : w3.heap.size < w5.heap.size := (by have := hb5.size; first | omega | (simp at this; omega))); obtain ⟨A5, c5, rfl, hr5⟩ := ho5.shape; rw [HLN.out] at hr5 ⊢; have HR5 := Lib.hid hr5; clear ho5 hr5; have HR45 := Lib.hid (HR4.out.drew.below (hb5.mono (by first | omega | (simp; omega)))))
        | ((go_at_call 17; go_call (eqGrid_same r c A3 A5 n c3 c5 xs _ w3.heap.size _ HR45.out HR5.out (by omega) (Nat.le_refl _) (by omega)) as e6 w6 ⟨rfl, hb6⟩; obtain ⟨hc6, hf6⟩ := bcell hb6; have hB6 : Below w.heap.size w w6 := (below_then (by first | (go_grown; done) | (repeat (first | (with_reducible assumption) | (with_reducible exact Below.refl _ _) | (with_reducible refine below_drewN' ?_ _) | (with_reducible refine Below.drew ?_) | ((with_reducible refine Below.alloc ?_ ?_ _); rotate_left; focus (first | (simp; done) | (simp; omega) | omega)) | ((with_reducible refine Below.setCell ?_ ?_ _); rotate_left; focus (first | (simp; done) | (simp; omega) | omega))))) (by first | omega | (simp; done) | (simp; omega)) hb6); have hz6a : w.heap.size < w6.heap.size := (by have := hb6.size; first | omega | (simp at this; omega)))))
    go_wp2_with fail
    go_ret
    exact ⟨rfl, by (repeat (first | (with_reducible assumption) | (with_reducible exact Below.refl _ _) | (with_reducible refine below_drewN' ?_ _) | (with_reducible refine Below.drew ?_) | ((with_reducible refine Below.alloc ?_ ?_ _); rotate_left; focus (first | (simp; done) | (simp; omega) | omega)) | ((with_reducible refine Below.setCell ?_ ?_ _); rotate_left; focus (first | (simp; done) | (simp; omega) | omega))))⟩
  · go_enter Try.func9, Try.ntmps9
    go_wp2_with (go_at_call 13; go_call (szGrid_no _ _ _ _ _ 1048576 _ (by omega) hn2) as e0 w0 ⟨rfl, hb0⟩; obtain ⟨hc0, hf0⟩ := bcell hb0; have hB0 : Below w.heap.size w w0 := (below_then (by first | (go_grown; done) | (repeat (first | (with_reducible assumption) | (with_reducible exact Below.refl _ _) | (with_reducible refine below_drewN' ?_ _) | (with_reducible refine Below.drew ?_) | ((with_reducible refine Below.alloc ?_ ?_ _); rotate_left; focus (first | (simp; done) | (simp; omega) | omega)) | ((with_reducible refine Below.setCell ?_ ?_ _); rotate_left; focus (first | (simp; done) | (simp; omega) | omega))))) (by first | omega | (simp; done) | (simp; omega)) hb0); have hz0a : w.heap.size < w0.heap.size := (by have := hb0.size; first | omega | (simp at this; omega)))
    go_ret
    exact ⟨rfl, by (repeat (first | (with_reducible assumption) | (with_reducible exact Below.refl _ _) | (with_reducible refine below_drewN' ?_ _) | (with_reducible refine Below.drew ?_) | ((with_reducible refine Below.alloc ?_ ?_ _); rotate_left; focus (first | (simp; done) | (simp; omega) | omega)) | ((with_reducible refine Below.setCell ?_ ?_ _); rotate_left; focus (first | (simp; done) | (simp; omega) | omega))))⟩
set_option maxRecDepth 100000 in
theorem lifted_FnExactReadFormat (os : Os) (started : os.Started) (H : Type) (enc : TypeId × Value → H) :
    ReturnsInHanded {} Try.checked os 9 .any (Rows.fnExactReadFormatSpec.pre6 enc Try.prog Try.f9 Rows.fnExactReadFormatRow.domain false) (Rows.fnExactReadFormatSpec.post enc Try.prog Try.f9 false true false false) := by
  refine law_lifted (C := Try.checked) (tb := 4) own started (by kernel_rfl) Try.func9
    (ChangeSpec.witness6 (enc := enc) (C := Try.checked) false ⟨#[], #[.agg #[.int .i64 0, .int .i64 0, .slice none 0 0]], []⟩ 8 (by kernel_rfl) (by kernel_rfl) (by kernel_rfl) (by kernel_rfl))
    laidOut (by kernel_rfl) rfl rfl Try.underlying4 ?_ ?_
  · intro ds hd
    match ds, hd with
    | [e0], _ => rfl
  · intro W base args ds p hval hA hlt hsz
    have hval1 : ∀ (j : Nat) t v, Try.f9.params[j]? = some t → args[j]? = some v → Value.okWide Try.prog W .any base t v := hval
    have hA1 : DataW.TrodAll enc Try.prog W 0 (fun _ => true) true Try.f9.params.toList args.toList ds p := hA
    have hsz1 : (DataW.weightsEach Try.prog Try.f9.params.toList ds).all (· ≤ reachBytes) = true := hsz
    rw [Try.params9] at hval1 hA1 hsz1
    clear hval hA hsz
    obtain ⟨v0, d0, rfl, rfl, h0⟩ := trodAll_one hA1
    obtain ⟨a, b, A, n, c, xs, rfl, _, _, hr, hn, _⟩ := arg_grid Try.underlying24 (by kernel_rfl) (by kernel_rfl) Try.underlying2 Try.underlying2 Try.underlying22 Try.underlying2 (by kernel_rfl) (hval1 0 24 v0 rfl rfl) h0 (fun x hx => hlt x (by simp [hx]))
    exact lawReadFormat a b A n c xs W hr hn
theorem holds_FnExactReadFormat : Rows.FnExactReadFormatSaid :=
  OpenClaim.holds_of_wide 9 Try.f9 rfl rfl rfl rfl rfl rfl rfl ⟨rfl, rfl, rfl, rfl, rfl⟩ rfl rfl rfl rfl rfl (by kernel_rfl) Try.func9 (by kernel_rfl)
    (of_decide_eq_true (by kernel_rfl)) (by unfold Func.isWrapper; first | (rw [if_pos (by decide +kernel)]; kernel_rfl) | (rw [if_neg (by decide +kernel)]; exact ⟨rfl, rfl⟩))
    (fun os started H enc _ => lifted_FnExactReadFormat os started H enc)

end Go.Proofs.Ytgokleeofcleiaa
