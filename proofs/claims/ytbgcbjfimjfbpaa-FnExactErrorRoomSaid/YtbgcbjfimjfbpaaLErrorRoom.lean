/-
  The row FnExactErrorRoom: for every family, size and level the program's ErrorRoom returns what the reference's returns, and leaves the family as it was; no condition.
-/
import Derived.Test.YtbgcbjfimjfbpaaC13N
import Derived.Test.YtbgcbjfimjfbpaaArgF
import Derived.Deep.RegionHeld3
namespace Go.Proofs.Ytbgcbjfimjfbpaa
set_option linter.unusedSimpArgs false
open Go.ChangeShapes Go.WideShapes Go.ChangeAt Go.RowKit Go.Deep

set_option maxRecDepth 20000 in
set_option maxHeartbeats 8000000 in
theorem lawFnExactErrorRoom (s : ByteArray) (kind p k g col : Int) (A1 A2 : Option Addr) (n1 c1 n2 c2 : Nat) (sz lv : List Int) (size level : Int) (w : World) (hr1 : RI w w.heap.size A1 n1 sz) (hr2 : RI w w.heap.size A2 n2 lv) (hs : s.size ≤ 9223372036854775807) (hn1 : n1 ≤ 9223372036854775807) (hn2 : n2 ≤ 9223372036854775807) :
    Calls Try.prog 9 #[.agg #[.string s, .int .i64 kind, .int .i64 p, .int .i64 k, .int .i64 g, .slice A1 n1 c1, .int .i64 col, .slice A2 n2 c2], .int .i64 size, .int .i64 level] w fun e' w' => e' = .returned (.bool true) ∧ Below w.heap.size w w' := by
  by_cases hbig : s.size + n1 + n2 ≤ 1048576
  · have hF : FamOk w w.heap.size s A1 n1 sz A2 n2 lv := ⟨by omega, hr1, hr2, by omega, by omega⟩
    have HSZ := Lib.hid (fun w => szFamily_ok s kind p k g col A1 A2 n1 c1 n2 c2 sz lv w hbig)
    have HT := Lib.hid (fun w' (hb : Below w.heap.size w w') => toFamily_any s kind p k g col A1 A2 n1 c1 n2 c2 sz lv w' w.heap.size (hF.below hb) hb.size)
    have s1 := fun (A1 A2 : Option Addr) (c1 c2 : Nat) (w : World) (B : Nat) (hF : FamOk w B s A1 n1 sz A2 n2 lv) (hB : B ≤ w.heap.size) => sErrorRoom_any s kind p k g col A1 A2 n1 c1 n2 c2 sz lv size level w B hF hB
    have s2 := fun (A1 A2 : Option Addr) (c1 c2 : Nat) (w : World) (B : Nat) (hF : FamOk w B s A1 n1 sz A2 n2 lv) (hB : B ≤ w.heap.size) => ErrorRoom_any s kind p k g col A1 A2 n1 c1 n2 c2 sz lv size level w B hF hB
    generalize (loI (loB (famB s kind p k g col n1 sz n2 lv) (hasB size sz) (inR level 0 ((n2 : Int) - 1)) (layOf kind p k g col size (nth lv level.toNat))) (layChk kind p k col size (nth lv level.toNat) / 2 : Nat)) = V at s1 s2
    generalize (loC (famB s kind p k g col n1 sz n2 lv) (hasB size sz) (inR level 0 ((n2 : Int) - 1)) (layOf kind p k g col size (nth lv level.toNat))) = C at s1 s2
    have S1 := Lib.hid s1
    have S2 := Lib.hid s2
    clear s1 s2 hr1 hr2 hF
    have h1 : (C != C) = false := by simp
    go_enter Try.func9, Try.ntmps9
    go_wp2_with (go_at_call 11; with_reducible refine (HSZ.out _).mono ?_; rintro e0 w0 ⟨rfl, hb0⟩; obtain ⟨hc0, hf0⟩ := bcell hb0; have hB0 : Below w.heap.size w w0 := (below_then (by first | (go_grown; done) | (repeat (first | (with_reducible assumption) | (with_reducible exact Below.refl _ _) | (with_reducible refine below_drewN' ?_ _) | (with_reducible refine Below.drew ?_) | ((with_reducible refine Below.alloc ?_ ?_ _); rotate_left; focus (first | (simp; done) | (simp; omega) | omega)) | ((with_reducible refine Below.setCell ?_ ?_ _); rotate_left; focus (first | (simp; done) | (simp; omega) | omega))))) (by first | omega | (simp; done) | (simp; omega)) hb0); have hz0a : w.heap.size < w0.heap.size := (by have := hb0.size; first | omega | (simp at this; omega)))
    have HT20 := Lib.hid (blk_below (heap_alloc_new w (.cells #[.string s, .int .i64 kind, .int .i64 p, .int .i64 k, .int .i64 g, .slice A1 n1 c1, .int .i64 col, .slice A2 n2 c2] 26)) hb0 (by simp))
    obtain ⟨p0, p1, p2, p3, p4, p5, p6, p7, -⟩ := blk8 HT20.out
    clear hc0 hf0
    (go_at_call 13; go_call (HT.out _ hB0) as e1 w1 ⟨A3, A4, c3, c4, rfl, hF1, hb1⟩; obtain ⟨hc1, hf1⟩ := bcell hb1; have hB1 : Below w.heap.size w w1 := (below_then (by first | (go_grown; done) | (repeat (first | (with_reducible assumption) | (with_reducible exact Below.refl _ _) | (with_reducible refine below_drewN' ?_ _) | (with_reducible refine Below.drew ?_) | ((with_reducible refine Below.alloc ?_ ?_ _); rotate_left; focus (first | (simp; done) | (simp; omega) | omega)) | ((with_reducible refine Below.setCell ?_ ?_ _); rotate_left; focus (first | (simp; done) | (simp; omega) | omega))))) (by first | omega | (simp; done) | (simp; omega)) hb1); have hz1a : w.heap.size < w1.heap.size := (by have := hb1.size; first | omega | (simp at this; omega)))
    have HF1 := Lib.hid hF1
    have HT21 := Lib.hid (blk_below HT20.out hb1 hz0a)
    clear hF1 hc1 hf1 p0 p1 p2 p3 p4 p5 p6 p7
    go_wp2_with fail
    (go_at_call 43; go_call (S1.out _ _ _ _ _ _ HF1.out (Nat.le_refl _)) as e2 w2 ⟨rfl, hb2⟩; obtain ⟨hc2, hf2⟩ := bcell hb2; have hB2 : Below w.heap.size w w2 := (below_then (by first | (go_grown; done) | (repeat (first | (with_reducible assumption) | (with_reducible exact Below.refl _ _) | (with_reducible refine below_drewN' ?_ _) | (with_reducible refine Below.drew ?_) | ((with_reducible refine Below.alloc ?_ ?_ _); rotate_left; focus (first | (simp; done) | (simp; omega) | omega)) | ((with_reducible refine Below.setCell ?_ ?_ _); rotate_left; focus (first | (simp; done) | (simp; omega) | omega))))) (by first | omega | (simp; done) | (simp; omega)) hb2); have hz2a : w.heap.size < w2.heap.size := (by have := hb2.size; first | omega | (simp at this; omega)))
    have HT22 := Lib.hid (blk_below HT21.out hb2 hz1a)
    clear hc2 hf2
    obtain ⟨p0, p1, p2, p3, p4, p5, p6, p7, -⟩ := blk8 HT22.out
    go_wp2_with fail
    (go_at_call 13; go_call (HT.out _ (by (repeat (first | (with_reducible assumption) | (with_reducible exact Below.refl _ _) | (with_reducible refine below_drewN' ?_ _) | (with_reducible refine Below.drew ?_) | ((with_reducible refine Below.alloc ?_ ?_ _); rotate_left; focus (first | (simp; done) | (simp; omega) | omega)) | ((with_reducible refine Below.setCell ?_ ?_ _); rotate_left; focus (first | (simp; done) | (simp; omega) | omega)))))) as e3 w3 ⟨A5, A6, c5, c6, rfl, hF3, hb3⟩; obtain ⟨hc3, hf3⟩ := bcell hb3; have hB3 : Below w.heap.size w w3 := (below_then (by first | (go_grown; done) | (repeat (first | (with_reducible assumption) | (with_reducible exact Below.refl _ _) | (with_reducible refine below_drewN' ?_ _) | (with_reducible refine Below.drew ?_) | ((with_reducible refine Below.alloc ?_ ?_ _); rotate_left; focus (first | (simp; done) | (simp; omega) | omega)) | ((with_reducible refine Below.setCell ?_ ?_ _); rotate_left; focus (first | (simp; done) | (simp; omega) | omega))))) (by first | omega | (simp; done) | (simp; omega)) hb3); have hz3a : w.heap.size < w3.heap.size := (by have := hb3.size; first | omega | (simp at this; omega)))
    have HF3 := Lib.hid hF3
    have HT23 := Lib.hid (blk_below HT22.out hb3 (by first | omega | (simp; done) | (simp; omega)))
    skip
    clear hF3 hc3 hf3 p0 p1 p2 p3 p4 p5 p6 p7
    go_wp2_with fail
    (go_at_call 23; go_call (S2.out _ _ _ _ _ _ (HF3.out.alloc (Nat.le_refl _) _) (by simp)) as e4 w4 ⟨rfl, hb4⟩; obtain ⟨hc4, hf4⟩ := bcell hb4; have hB4 : Below w.heap.size w w4 := (below_then (by first | (go_grown; done) | (repeat (first | (with_reducible assumption) | (with_reducible exact Below.refl _ _) | (with_reducible refine below_drewN' ?_ _) | (with_reducible refine Below.drew ?_) | ((with_reducible refine Below.alloc ?_ ?_ _); rotate_left; focus (first | (simp; done) | (simp; omega) | omega)) | ((with_reducible refine Below.setCell ?_ ?_ _); rotate_left; focus (first | (simp; done) | (simp; omega) | omega))))) (by first | omega | (simp; done) | (simp; omega)) hb4); have hz4a : w.heap.size < w4.heap.size := (by have := hb4.size; first | omega | (simp at this; omega)); have hz4b : w3.heap.size < w4.heap.size := (by have := hb4.size; first | omega | (simp at this; omega)))
    have HG4 := Lib.hid (blk_below (heap_alloc_new w3 (.cells #[.string s, .int .i64 kind, .int .i64 p, .int .i64 k, .int .i64 g, .slice A5 n1 c5, .int .i64 col, .slice A6 n2 c6] 34)) hb4 (by simp))
    have HT24 := Lib.hid (blk_below (blk_alloc HT23.out hz3a) hb4 (by first | omega | (simp; done) | (simp; omega)))
    have HF4 := Lib.hid (((HF3.out.alloc (Nat.le_refl _) (.cells #[.string s, .int .i64 kind, .int .i64 p, .int .i64 k, .int .i64 g, .slice A5 n1 c5, .int .i64 col, .slice A6 n2 c6] 34)).below (hb4.mono (by simp))).more (B' := w4.heap.size) (Nat.le_of_lt hz4b))
    have h2 : (V != V) = false := by simp
    have hBk := Lib.hid hB4
    have hz6 : w.heap.size < w4.heap.size := hz4a
    have hz6' : w3.heap.size < w4.heap.size := hz4b
    have HT6 := Lib.hid (fun w' (hb : Below w4.heap.size w4 w') => HT.out w' (hBk.out.trans (hb.mono (Nat.le_of_lt hz6))))
    skip
    clear hc4 hf4 hb4 hB4 hB3 hB2 hB1 hB0 hb0 hb1 hb2 hb3
    obtain ⟨k0, k1, k2, k3, k4, k5, k6, k7, -⟩ := blk8 HG4.out
    obtain ⟨g0, g1, g2, g3, g4, g5, g6, g7, -⟩ := blk8 HT24.out
    go_wp2_with fail
    skip
    go_region_held3 (fun w' => w'.cell? ⟨w3.heap.size, 0, none⟩ = some (.string s) ∧ w'.cell? ⟨w3.heap.size, 1, none⟩ = some (.int .i64 kind) ∧ w'.cell? ⟨w3.heap.size, 2, none⟩ = some (.int .i64 p) ∧ w'.cell? ⟨w3.heap.size, 3, none⟩ = some (.int .i64 k) ∧ w'.cell? ⟨w3.heap.size, 4, none⟩ = some (.int .i64 g) ∧ w'.cell? ⟨w3.heap.size, 5, none⟩ = some (.slice A5 n1 c5) ∧ w'.cell? ⟨w3.heap.size, 6, none⟩ = some (.int .i64 col) ∧ w'.cell? ⟨w3.heap.size, 7, none⟩ = some (.slice A6 n2 c6) ∧ w'.cell? ⟨w.heap.size, 0, none⟩ = some (.string s) ∧ w'.cell? ⟨w.heap.size, 1, none⟩ = some (.int .i64 kind) ∧ w'.cell? ⟨w.heap.size, 2, none⟩ = some (.int .i64 p) ∧ w'.cell? ⟨w.heap.size, 3, none⟩ = some (.int .i64 k) ∧ w'.cell? ⟨w.heap.size, 4, none⟩ = some (.int .i64 g) ∧ w'.cell? ⟨w.heap.size, 5, none⟩ = some (.slice A1 n1 c1) ∧ w'.cell? ⟨w.heap.size, 6, none⟩ = some (.int .i64 col) ∧ w'.cell? ⟨w.heap.size, 7, none⟩ = some (.slice A2 n2 c2))
      (first | (exact ⟨q0, q1, q2, q3, q4, q5, q6, q7, p0, p1, p2, p3, p4, p5, p6, p7⟩) | (exact ⟨k0, k1, k2, k3, k4, k5, k6, k7, g0, g1, g2, g3, g4, g5, g6, g7⟩) | go_keep)
      (first
        | (go_at_call 13; with_reducible refine (HT6.out _ (by (repeat (first | (with_reducible assumption) | (with_reducible exact Below.refl _ _) | (with_reducible refine below_drewN' ?_ _) | (with_reducible refine Below.drew ?_) | ((with_reducible refine Below.alloc ?_ ?_ _); rotate_left; focus (first | (simp; done) | (simp; omega) | omega)) | ((with_reducible refine Below.setCell ?_ ?_ _); rotate_left; focus (first | (simp; done) | (simp; omega) | omega)))))).mono ?_; rintro e7 w7 ⟨A7, A8, c7, c8, rfl, hF7, hb7⟩; have hD7 : Below w4.heap.size w4 w7 := below_then (by (repeat (first | (with_reducible assumption) | (with_reducible exact Below.refl _ _) | (with_reducible refine below_drewN' ?_ _) | (with_reducible refine Below.drew ?_) | ((with_reducible refine Below.alloc ?_ ?_ _); rotate_left; focus (first | (simp; done) | (simp; omega) | omega)) | ((with_reducible refine Below.setCell ?_ ?_ _); rotate_left; focus (first | (simp; done) | (simp; omega) | omega))))) (by first | omega | (simp; done) | (simp; omega)) hb7; have hsz7 := hD7.size; obtain ⟨q0, q1, q2, q3, q4, q5, q6, q7, -⟩ := blk8 ((hD7.block w3.heap.size hz6').trans HG4.out); obtain ⟨p0, p1, p2, p3, p4, p5, p6, p7, -⟩ := blk8 ((hD7.block w.heap.size hz6).trans HT24.out); have HF7 := Lib.hid hF7; have HF37 := Lib.hid ((HF4.out.below hD7).more hD7.size); clear hF7 hb7)
        | (go_at_call 16; with_reducible refine (eqFamily_same s kind p k g col A5 A6 A7 A8 n1 c5 n2 c6 c7 c8 sz lv _ _ (HF37.out.below (by (repeat (first | (with_reducible assumption) | (with_reducible exact Below.refl _ _) | (with_reducible refine below_drewN' ?_ _) | (with_reducible refine Below.drew ?_) | ((with_reducible refine Below.alloc ?_ ?_ _); rotate_left; focus (first | (simp; done) | (simp; omega) | omega)) | ((with_reducible refine Below.setCell ?_ ?_ _); rotate_left; focus (first | (simp; done) | (simp; omega) | omega)))))) (HF7.out.below (by (repeat (first | (with_reducible assumption) | (with_reducible exact Below.refl _ _) | (with_reducible refine below_drewN' ?_ _) | (with_reducible refine Below.drew ?_) | ((with_reducible refine Below.alloc ?_ ?_ _); rotate_left; focus (first | (simp; done) | (simp; omega) | omega)) | ((with_reducible refine Below.setCell ?_ ?_ _); rotate_left; focus (first | (simp; done) | (simp; omega) | omega)))))) (by first | omega | (simp; done) | (simp; omega))).mono ?_; rintro e8 w8 ⟨rfl, hb8⟩; have hD8 : Below w4.heap.size w4 w8 := below_then (by (repeat (first | (with_reducible assumption) | (with_reducible exact Below.refl _ _) | (with_reducible refine below_drewN' ?_ _) | (with_reducible refine Below.drew ?_) | ((with_reducible refine Below.alloc ?_ ?_ _); rotate_left; focus (first | (simp; done) | (simp; omega) | omega)) | ((with_reducible refine Below.setCell ?_ ?_ _); rotate_left; focus (first | (simp; done) | (simp; omega) | omega))))) (by first | omega | (simp; done) | (simp; omega)) hb8; have hsz8 := hD8.size; obtain ⟨q0, q1, q2, q3, q4, q5, q6, q7, -⟩ := blk8 ((hD8.block w3.heap.size hz6').trans HG4.out); obtain ⟨p0, p1, p2, p3, p4, p5, p6, p7, -⟩ := blk8 ((hD8.block w.heap.size hz6).trans HT24.out); clear hb8))
    go_wp2_with fail
    go_ret
    exact ⟨rfl, hBk.out.trans (hD8.mono (Nat.le_of_lt hz6))⟩
  · have HSZ := Lib.hid (fun w => szFamily_no s kind p k g col A1 A2 n1 c1 n2 c2 sz lv w (by omega) hs hn1 hn2)
    go_enter Try.func9, Try.ntmps9
    go_wp2_with (go_at_call 11; with_reducible refine (HSZ.out _).mono ?_; rintro e0 w0 ⟨rfl, hb0⟩; obtain ⟨hc0, hf0⟩ := bcell hb0; have hB0 : Below w.heap.size w w0 := (below_then (by first | (go_grown; done) | (repeat (first | (with_reducible assumption) | (with_reducible exact Below.refl _ _) | (with_reducible refine below_drewN' ?_ _) | (with_reducible refine Below.drew ?_) | ((with_reducible refine Below.alloc ?_ ?_ _); rotate_left; focus (first | (simp; done) | (simp; omega) | omega)) | ((with_reducible refine Below.setCell ?_ ?_ _); rotate_left; focus (first | (simp; done) | (simp; omega) | omega))))) (by first | omega | (simp; done) | (simp; omega)) hb0); have hz0a : w.heap.size < w0.heap.size := (by have := hb0.size; first | omega | (simp at this; omega)))
    go_ret
    exact ⟨rfl, by (repeat (first | (with_reducible assumption) | (with_reducible exact Below.refl _ _) | (with_reducible refine below_drewN' ?_ _) | (with_reducible refine Below.drew ?_) | ((with_reducible refine Below.alloc ?_ ?_ _); rotate_left; focus (first | (simp; done) | (simp; omega) | omega)) | ((with_reducible refine Below.setCell ?_ ?_ _); rotate_left; focus (first | (simp; done) | (simp; omega) | omega))))⟩
set_option maxRecDepth 100000 in
theorem lifted_FnExactErrorRoom (os : Os) (started : os.Started) (H : Type) (enc : TypeId × Value → H) :
    ReturnsInHanded {} Try.checked os 9 .any (Rows.fnExactErrorRoomSpec.pre6 enc Try.prog Try.f9 Rows.fnExactErrorRoomRow.domain false) (Rows.fnExactErrorRoomSpec.post enc Try.prog Try.f9 false true false false) := by
  refine law_lifted (C := Try.checked) (tb := 4) own started (by kernel_rfl) Try.func9
    (ChangeSpec.witness6 (enc := enc) (C := Try.checked) false ⟨#[], #[.agg #[.string ⟨#[]⟩, .int .i64 0, .int .i64 0, .int .i64 0, .int .i64 0, .slice none 0 0, .int .i64 0, .slice none 0 0], .int .i64 0, .int .i64 0], []⟩ 8 (by kernel_rfl) (by kernel_rfl) (by kernel_rfl) (by kernel_rfl))
    laidOut (by kernel_rfl) rfl rfl Try.underlying4 ?_ ?_
  · intro ds hd
    match ds, hd with
    | [e0, e1, e2], _ => rfl
  · intro W base args ds p hval hA hlt hsz
    have hval1 : ∀ (j : Nat) t v, Try.f9.params[j]? = some t → args[j]? = some v → Value.okWide Try.prog W .any base t v := hval
    have hA1 : DataW.TrodAll enc Try.prog W 0 (fun _ => true) true Try.f9.params.toList args.toList ds p := hA
    have hsz1 : (DataW.weightsEach Try.prog Try.f9.params.toList ds).all (· ≤ reachBytes) = true := hsz
    rw [Try.params9] at hval1 hA1 hsz1
    clear hval hA hsz
    obtain ⟨v0, v1, v2, d0, d1, d2, p0, p1, p2, rfl, rfl, rfl, h0, h1, h2⟩ := trodAll_three hA1
    obtain ⟨s, kind, p, k, g, col, A1, A2, n1, c1, n2, c2, sz, lv, rfl, hs, hr1, hn1, hr2, hn2⟩ := arg_fam Try.underlying26 (by kernel_rfl) ⟨rfl, rfl, rfl, rfl, rfl, rfl⟩ (by refine ⟨?_, ?_, ?_, ?_, ?_, ?_⟩ <;> kernel_rfl) Try.underlying9 Try.underlying2 Try.underlying23 ⟨rfl, rfl, rfl⟩ (by refine ⟨?_, ?_, ?_⟩ <;> kernel_rfl) Try.underlying2 Try.underlying2 Try.underlying2 Try.underlying24 Try.underlying2 Try.underlying24 Try.underlying2 (by kernel_rfl) (hval1 0 26 v0 rfl rfl) h0 (fun x hx => hlt x (by simp [hx]))
    obtain ⟨size, rfl, _, _⟩ := ok_int Try.underlying2 (hval1 1 2 v1 rfl rfl)
    obtain ⟨level, rfl, _, _⟩ := ok_int Try.underlying2 (hval1 2 2 v2 rfl rfl)
    exact lawFnExactErrorRoom s kind p k g col A1 A2 n1 c1 n2 c2 sz lv size level W hr1 hr2 hs hn1 hn2
theorem holds_FnExactErrorRoom : Rows.FnExactErrorRoomSaid :=
  OpenClaim.holds_of_wide 9 Try.f9 rfl rfl rfl rfl rfl rfl rfl ⟨rfl, rfl, rfl, rfl, rfl⟩ rfl rfl rfl rfl rfl (by kernel_rfl) Try.func9 (by kernel_rfl)
    (of_decide_eq_true (by kernel_rfl)) (by unfold Func.isWrapper; first | (rw [if_pos (by decide +kernel)]; kernel_rfl) | (rw [if_neg (by decide +kernel)]; exact ⟨rfl, rfl⟩))
    (fun os started H enc _ => lifted_FnExactErrorRoom os started H enc)


end Go.Proofs.Ytbgcbjfimjfbpaa
