/-
  The row FnExactPlaceIndex: for every number and place the program's PlaceIndex returns what the reference's returns; no condition.
-/
import Derived.Test.YteghpageamehkaaC15I
import Derived.Test.YteghpageamehkaaArgG
import Derived.Deep.RegionHeld3
namespace Go.Proofs.Yteghpageamehkaa
set_option linter.unusedSimpArgs false
open Go.ChangeShapes Go.WideShapes Go.ChangeAt Go.RowKit Go.Deep

def piV (n r c : Int) : Int := if sizeB n then (ixL (dataL n.toNat) r c (dataL n.toNat).length).getD 0 else 0
def piC (n r c : Int) : Int := if sizeB n then (if (ixL (dataL n.toNat) r c (dataL n.toNat).length).isSome then 0 else 4) else 2
theorem box2 {w : World} {t : TypeId} {x y : Value} : (w.alloc (.cells #[x, y] t)).cell? ⟨w.heap.size, 0, none⟩ = some x ∧ (w.alloc (.cells #[x, y] t)).cell? ⟨w.heap.size, 1, none⟩ = some y :=
  ⟨by rw [cell_of_row _ _ 0 #[x, y] t (0, 0) (heap_alloc_new w _)]; rfl, by rw [cell_of_row _ _ 1 #[x, y] t (0, 0) (heap_alloc_new w _)]; rfl⟩
set_option maxRecDepth 20000 in
set_option maxHeartbeats 2000000 in
theorem PlaceIndex_any (n r c : Int) (w : World) (hr : I64 r) (hc : I64 c) :
    Calls Try.prog 15 #[.int .i64 n, .agg #[.int .i64 r, .int .i64 c]] w fun e w' => e = .returned (.tuple #[.int .i64 (piV n r c), .int .i64 (piC n r c)]) ∧ Below w.heap.size w w' := by
  unfold piV piC
  cases hs : sizeB n
  · go_enter Try.func15, Try.ntmps15
    go_wp2_with (go_at_call 52; refine (isMatrixSize_any _ _).mono ?_; rintro e w' ⟨rfl, rfl⟩)
    go_returns
    exact ⟨by simp, by (repeat (first | (with_reducible assumption) | (with_reducible exact Below.refl _ _) | (with_reducible refine below_drewN' ?_ _) | (with_reducible refine Below.drew ?_) | ((with_reducible refine Below.alloc ?_ ?_ _); rotate_left; focus (first | (simp; done) | (simp; omega) | omega)) | ((with_reducible refine Below.setCell ?_ ?_ _); rotate_left; focus (first | (simp; done) | (simp; omega) | omega))))⟩
  · obtain ⟨N, rfl, h1, h2, h3⟩ := sizeB_true hs
    have HI := Lib.hid (fun w => placeIndices_any N w ⟨h1, h2, h3⟩)
    have hbd := ixL_in (ps := dataL N) (r := r) (c := c) (n := (dataL N).length)
    have hle := dataL_le h2
    rw [show (N : Int).toNat = N by simp]
    generalize (dataL N).length = L at HI hbd hle ⊢
    generalize hO : ixL (dataL N) r c L = O at hbd ⊢
    have HO := Lib.hid hO
    clear hO
    go_enter Try.func15, Try.ntmps15
    go_wp2_with (go_at_call 52; refine (isMatrixSize_any _ _).mono ?_; rintro e w' ⟨rfl, rfl⟩)
    obtain ⟨y0, y1⟩ := box2 (w := w) (t := 32) (x := .int .i64 r) (y := .int .i64 c)
    go_region_held3 (fun w' => w'.cell? ⟨w.heap.size, 0, none⟩ = some (.int .i64 r) ∧ w'.cell? ⟨w.heap.size, 1, none⟩ = some (.int .i64 c))
      (first | (exact ⟨y0, y1⟩) | (exact ⟨(hc1 _ _ (by first | omega | (simp; done) | (simp; omega))).trans y0, (hc1 _ _ (by first | omega | (simp; done) | (simp; omega))).trans y1⟩) | go_keep)
      (((go_at_call 60; with_reducible refine (HI.out _).mono ?_; rintro e1 w1 ⟨b, nb, rfl, hbB, hmq, hb1⟩; obtain ⟨hc1, hf1⟩ := bcell hb1; have hB1 : Below w.heap.size w w1 := (below_then (by first | (go_grown; done) | (repeat (first | (with_reducible assumption) | (with_reducible exact Below.refl _ _) | (with_reducible refine below_drewN' ?_ _) | (with_reducible refine Below.drew ?_) | ((with_reducible refine Below.alloc ?_ ?_ _); rotate_left; focus (first | (simp; done) | (simp; omega) | omega)) | ((with_reducible refine Below.setCell ?_ ?_ _); rotate_left; focus (first | (simp; done) | (simp; omega) | omega))))) (by first | omega | (simp; done) | (simp; omega)) hb1); have hz1a : w.heap.size < w1.heap.size := (by have := hb1.size; first | omega | (simp at this; omega)))
        have hlk := hmq.look hr hc
        rw [HO.out] at hlk))
    cases O with
    | none =>
      go_wp2_with fail
      go_returns
      exact ⟨by simp, hB1⟩
    | some i =>
      go_wp2_with fail
      go_returns
      exact ⟨by simp, hB1⟩
set_option maxHeartbeats 2000000 in
theorem sPlaceIndex_any (n r c : Int) (w : World) :
    Calls Try.prog 17 #[.int .i64 n, .agg #[.int .i64 r, .int .i64 c]] w fun e w' => e = .returned (.tuple #[.int .i64 (piV n r c), .int .i64 (piC n r c)]) ∧ Below w.heap.size w w' := by
  unfold piV piC
  cases hs : sizeB n
  · go_enter Try.func17, Try.ntmps17
    go_wp2_with (go_at_call 55; refine (l14Size_any _ _).mono ?_; rintro e w' ⟨rfl, rfl⟩)
    go_returns
    exact ⟨by simp, by (repeat (first | (with_reducible assumption) | (with_reducible exact Below.refl _ _) | (with_reducible refine below_drewN' ?_ _) | (with_reducible refine Below.drew ?_) | ((with_reducible refine Below.alloc ?_ ?_ _); rotate_left; focus (first | (simp; done) | (simp; omega) | omega)) | ((with_reducible refine Below.setCell ?_ ?_ _); rotate_left; focus (first | (simp; done) | (simp; omega) | omega))))⟩
  · obtain ⟨N, rfl, h1, h2, h3⟩ := sizeB_true hs
    have HP := Lib.hid (fun w => l15Places_any N w ⟨h1, h2, h3⟩)
    have hfo := Lib.hid (fun k hk he => ix_found (N := N) ⟨h1, h2, h3⟩ (r := r) (c := c) (k := k) hk he)
    have hno := Lib.hid (fun he => ixL_none (ps := dataL N) (r := r) (c := c) (n := (dataL N).length) he)
    have hle := dataL_le h2
    rw [show (N : Int).toNat = N by simp]
    obtain ⟨L, hL⟩ : ∃ L, (dataL N).length = L := ⟨_, rfl⟩
    rw [hL] at hfo hno hle ⊢
    have HL := Lib.hid hL
    clear hL
    generalize dataL N = ps at HP hfo hno HL ⊢
    rw [if_pos rfl, if_pos rfl]
    obtain ⟨V, hV⟩ : ∃ V, (ixL ps r c L).getD 0 = V := ⟨_, rfl⟩
    obtain ⟨Q, hQ⟩ : ∃ Q : Int, (if (ixL ps r c L).isSome then 0 else 4) = Q := ⟨_, rfl⟩
    rw [hV, hQ]
    have HV := Lib.hid hV
    have HQ := Lib.hid hQ
    clear hV hQ
    go_enter Try.func17, Try.ntmps17
    go_wp2_with (go_at_call 55; refine (l14Size_any _ _).mono ?_; rintro e w' ⟨rfl, rfl⟩)
    (go_at_call 59; with_reducible refine (HP.out _).mono ?_; rintro e1 w1 ⟨v1, rfl, ho1, hb1⟩; obtain ⟨hc1, hf1⟩ := bcell hb1; have hB1 : Below w.heap.size w w1 := (below_then (by first | (go_grown; done) | (repeat (first | (with_reducible assumption) | (with_reducible exact Below.refl _ _) | (with_reducible refine below_drewN' ?_ _) | (with_reducible refine Below.drew ?_) | ((with_reducible refine Below.alloc ?_ ?_ _); rotate_left; focus (first | (simp; done) | (simp; omega) | omega)) | ((with_reducible refine Below.setCell ?_ ?_ _); rotate_left; focus (first | (simp; done) | (simp; omega) | omega))))) (by first | omega | (simp; done) | (simp; omega)) hb1); have hz1a : w.heap.size < w1.heap.size := (by have := hb1.size; first | omega | (simp at this; omega)))
    have HX := Lib.hid (blk_below (heap_alloc_new w (.cells #[.int .i64 r, .int .i64 c] 32)) hb1 (by simp))
    obtain ⟨A1, c1, rfl⟩ := ho1.shape0
    rw [HL.out] at ho1 ⊢
    have HO1 := Lib.hid ho1
    clear ho1 hc1 hf1
    go_wp2_with fail
    go_loopw [7] (fun i wr => ∃ k : Nat, k ≤ L ∧ i = .int .i64 k ∧ Hid (∀ j, j < k → eqP r c (nthP ps j) = false) ∧ Hid (Below w1.heap.size w1 wr))
      (fun i _ => L - (intOf i).toNat)
    case atStart => exact ⟨0, Nat.zero_le _, rfl, Lib.hid (fun j hj => absurd hj (by omega)), Lib.hid (Below.refl _ _)⟩
    case round =>
      obtain ⟨k, hk, rfl, hnone, hbel⟩ := hrel
      have hsr := hbel.out.size
      have hbw : Below w.heap.size w wr := hB1.trans (hbel.out.mono (by omega))
      by_cases hlt : k < L
      · obtain ⟨g, c', e', hB', hg', hc'⟩ := (HO1.out.keep hbel.out).cells (by rw [HL.out]; omega)
        simp only [Value.slice.injEq] at e'
        obtain ⟨rfl, -, -⟩ := e'
        obtain ⟨hck0, hck1⟩ := hc' k (by rw [HL.out]; exact hlt)
        have hXr := blk_below HX.out hbel.out hz1a
        have y0 : wr.cell? ⟨w.heap.size, 0, none⟩ = some (.int .i64 r) := by rw [cell_of_row _ _ 0 #[.int .i64 r, .int .i64 c] 32 (0, 0) hXr]; rfl
        have y1 : wr.cell? ⟨w.heap.size, 1, none⟩ = some (.int .i64 c) := by rw [cell_of_row _ _ 1 #[.int .i64 r, .int .i64 c] 32 (0, 0) hXr]; rfl
        have hbl : w.heap.size < wr.heap.size := by omega
        obtain ⟨pp, hpp⟩ : ∃ pp, nthP ps k = pp := ⟨_, rfl⟩
        rw [hpp] at hck0 hck1
        have HPP := Lib.hid hpp
        clear hc' hpp hXr
        obtain ⟨pr, pq⟩ := pp
        simp only at hck0 hck1
        by_cases e1 : pr = r
        · by_cases e2 : pq = c
          · subst e1 e2
            have hO := hfo.out k hlt (by rw [HPP.out]; exact eqP_iff.2 rfl)
            have HOO := Lib.hid hO
            clear hO
            have hq1 : (pr == pr) = true := by simp
            have hq2 : (pq == pq) = true := by simp
            go_wp2_with fail
            refine wp_region_qat [] 6 [] (by kernel_rfl) (by kernel_rfl) ?_
            intro hbc
            simp only [List.take_succ_cons, List.take_zero, List.drop_succ_cons, List.drop_zero]
            repeat (first
              | refine wpQ_pass rfl ?_
              | (refine wpQ_step rfl (fun K hK => ?_)
                 go_simp
                 first
                   | (refine hK _ ?_; clear hK K)))
            refine wpQ_nil ⟨?_, ?_⟩
            · exact rfl
            intro  w3 hb3 hF3
            clear hbc
            obtain ⟨hc3, hf3⟩ := bcell hb3
            have hB3 : Below w.heap.size w w3 := below_then (by first | (go_grown; done) | (repeat (first | (with_reducible assumption) | (with_reducible exact Below.refl _ _) | (with_reducible refine below_drewN' ?_ _) | (with_reducible refine Below.drew ?_) | ((with_reducible refine Below.alloc ?_ ?_ _); rotate_left; focus (first | (simp; done) | (simp; omega) | omega)) | ((with_reducible refine Below.setCell ?_ ?_ _); rotate_left; focus (first | (simp; done) | (simp; omega) | omega))))) (by first | (simp; done) | (simp; omega) | omega) hb3
            have hz3a : w.heap.size < w3.heap.size := (by have := hb3.size; first | omega | (simp at this; omega))
            clear hF3
            try simp only [Act.put, List.setIfInBounds_toArray, List.set_cons_succ, List.set_cons_zero]
            go_wp2_with fail
            go_returns
            have hVQ : V = k ∧ Q = 0 := ⟨by rw [← HV.out, HOO.out]; rfl, by rw [← HQ.out, HOO.out]; rfl⟩
            exact ⟨by rw [hVQ.1, hVQ.2]; simp, hB3⟩
          · have hne := Lib.hid (show eqP r c (nthP ps k) = false by
              rw [HPP.out]; cases h : eqP r c (pr, pq) with
              | false => rfl
              | true => have := eqP_iff.1 h; simp only [Prod.mk.injEq] at this; exact absurd this.2 e2)
            have hq2 : (pq == c) = false := by simpa using e2
            go_wp2_with fail
            refine wp_region_qat [] 6 [] (by kernel_rfl) (by kernel_rfl) ?_
            intro hbc
            simp only [List.take_succ_cons, List.take_zero, List.drop_succ_cons, List.drop_zero]
            repeat (first
              | refine wpQ_pass rfl ?_
              | (refine wpQ_step rfl (fun K hK => ?_)
                 go_simp
                 first
                   | (refine hK _ ?_; clear hK K)))
            refine wpQ_nil ⟨?_, ?_⟩
            · exact rfl
            intro  w3 hb3 hF3
            clear hbc
            obtain ⟨hc3, hf3⟩ := bcell hb3
            have hB3 : Below w.heap.size w w3 := below_then (by first | (go_grown; done) | (repeat (first | (with_reducible assumption) | (with_reducible exact Below.refl _ _) | (with_reducible refine below_drewN' ?_ _) | (with_reducible refine Below.drew ?_) | ((with_reducible refine Below.alloc ?_ ?_ _); rotate_left; focus (first | (simp; done) | (simp; omega) | omega)) | ((with_reducible refine Below.setCell ?_ ?_ _); rotate_left; focus (first | (simp; done) | (simp; omega) | omega))))) (by first | (simp; done) | (simp; omega) | omega) hb3
            have hz3a : w.heap.size < w3.heap.size := (by have := hb3.size; first | omega | (simp at this; omega))
            clear hF3
            try simp only [Act.put, List.setIfInBounds_toArray, List.set_cons_succ, List.set_cons_zero]
            have hbb := Lib.hid (hbel.out.trans (hb3.mono hsr))
            clear hc3 hf3 hck0 hck1 y0 y1
            go_wp2_with fail
            go_roundw
            case rel => refine ⟨k + 1, by omega, by go_num, ?_⟩; first | exact ⟨Lib.hid (fun j hj => if e : j = k then by rw [e]; exact hne.out else hnone.out j (by omega)), hbb⟩ | exact Lib.hid (fun j hj => if e : j = k then by rw [e]; exact hne.out else hnone.out j (by omega))
            case measure => simp [intOf]; omega
        · have hne := Lib.hid (show eqP r c (nthP ps k) = false by
            rw [HPP.out]; cases h : eqP r c (pr, pq) with
            | false => rfl
            | true => have := eqP_iff.1 h; simp only [Prod.mk.injEq] at this; exact absurd this.1 e1)
          have hq1 : (pr == r) = false := by simpa using e1
          go_wp2_with fail
          refine wp_region_qat [] 6 [] (by kernel_rfl) (by kernel_rfl) ?_
          intro hbc
          simp only [List.take_succ_cons, List.take_zero, List.drop_succ_cons, List.drop_zero]
          repeat (first
            | refine wpQ_pass rfl ?_
            | (refine wpQ_step rfl (fun K hK => ?_)
               go_simp
               first
                 | (refine hK _ ?_; clear hK K)))
          refine wpQ_nil ⟨?_, ?_⟩
          · exact rfl
          intro  w3 hb3 hF3
          clear hbc
          obtain ⟨hc3, hf3⟩ := bcell hb3
          have hB3 : Below w.heap.size w w3 := below_then (by first | (go_grown; done) | (repeat (first | (with_reducible assumption) | (with_reducible exact Below.refl _ _) | (with_reducible refine below_drewN' ?_ _) | (with_reducible refine Below.drew ?_) | ((with_reducible refine Below.alloc ?_ ?_ _); rotate_left; focus (first | (simp; done) | (simp; omega) | omega)) | ((with_reducible refine Below.setCell ?_ ?_ _); rotate_left; focus (first | (simp; done) | (simp; omega) | omega))))) (by first | (simp; done) | (simp; omega) | omega) hb3
          have hz3a : w.heap.size < w3.heap.size := (by have := hb3.size; first | omega | (simp at this; omega))
          clear hF3
          try simp only [Act.put, List.setIfInBounds_toArray, List.set_cons_succ, List.set_cons_zero]
          have hbb := Lib.hid (hbel.out.trans (hb3.mono hsr))
          clear hc3 hf3 hck0 hck1 y0 y1
          go_wp2_with fail
          go_roundw
          case rel => refine ⟨k + 1, by omega, by go_num, ?_⟩; first | exact ⟨Lib.hid (fun j hj => if e : j = k then by rw [e]; exact hne.out else hnone.out j (by omega)), hbb⟩ | exact Lib.hid (fun j hj => if e : j = k then by rw [e]; exact hne.out else hnone.out j (by omega))
          case measure => simp [intOf]; omega
      · obtain rfl : L = k := by omega
        have hO := hno.out hnone.out
        have HOO := Lib.hid hO
        clear hO
        go_wp2_with fail
        go_returns
        have hVQ : V = 0 ∧ Q = 4 := ⟨by rw [← HV.out, HOO.out]; rfl, by rw [← HQ.out, HOO.out]; rfl⟩
        exact ⟨by rw [hVQ.1, hVQ.2]; simp, hbw⟩
theorem toPlace_any (r c : Int) (w : World) : Calls Try.prog 67 #[.agg #[.int .i64 r, .int .i64 c]] w fun e w' => e = .returned (.agg #[.int .i64 r, .int .i64 c]) ∧ Below w.heap.size w w' := by
  go_enter Try.func67, Try.ntmps67
  go_wp2_with fail
  go_returns
  exact ⟨by simp, by (repeat (first | (with_reducible assumption) | (with_reducible exact Below.refl _ _) | (with_reducible refine below_drewN' ?_ _) | (with_reducible refine Below.drew ?_) | ((with_reducible refine Below.alloc ?_ ?_ _); rotate_left; focus (first | (simp; done) | (simp; omega) | omega)) | ((with_reducible refine Below.setCell ?_ ?_ _); rotate_left; focus (first | (simp; done) | (simp; omega) | omega))))⟩
end Go.Proofs.Yteghpageamehkaa
