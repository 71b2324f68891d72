/-
  What the laws of the format words draw: lists with errors.
-/
import Derived.Test.YtkdaodfhilhfgaaC08W
import Derived.Test.YtkdaodfhilhfgaaSlice
import Derived.Test.YtkdaodfhilhfgaaToS
namespace Go.Proofs.Ytkdaodfhilhfgaa
set_option linter.unusedSimpArgs false
open Go.RowKit
theorem Own.bx {s : SP} {B : Nat} {v : Value} {xs : List Int} {w w' : World} (h : Own w B v xs) (hb : BX s w.heap.size w w') (hs : s.b < B) : Own w' B v xs := by
  refine ⟨h.1, ?_⟩
  rcases h.2 with h' | ⟨g, cap, cur, rfl, hB, hg, hr⟩
  · exact .inl h'
  · exact .inr ⟨g, cap, cur, rfl, hB, (hb.block g (lt_of_block hg) (by omega)).trans hg, hr⟩
theorem Own.made2 {w : World} {B : Nat} (x y : Int) (hB : B ≤ w.heap.size) : Own (w.alloc (.cells #[.int .i64 x, .int .i64 y] 2)) B (.slice (some ⟨w.heap.size, 0, none⟩) 2 2) [x, y] :=
  ⟨by simp, .inr ⟨w.heap.size, 2, _, rfl, hB, heap_alloc_new w _, Nat.le_refl _, by decide, rfl, rfl⟩⟩
theorem and_mask (v D : Nat) (hv : v ≤ 1000) (hD : D ≤ 8) : bits .and .i64 (v : Int) (2 ^ D - 1) = ((v % 2 ^ D : Nat) : Int) := by
  have h1 := Nat.one_le_two_pow (n := D)
  have h2 : 2 ^ D ≤ 2 ^ 8 := Nat.pow_le_pow_right (by decide) hD
  have e : ((2 : Int) ^ D - 1) = ((2 ^ D - 1 : Nat) : Int) := by
    have h3 : ((2 ^ D : Nat) : Int) = (2 : Int) ^ D := by simp
    omega
  rw [e, i64_and v _ (by omega) (by omega), Nat.and_two_pow_sub_one_eq_mod]
set_option maxHeartbeats 4000000 in
theorem l08DrawList_any (b : Nat) (A : Option Addr) (n c : Nat) (bs : List Int) (B : Nat) (d l p v : Int) (w : World) (hI : (srcP 82 b A n c bs B).I w) (hl : -9223372036854775808 ≤ l ∧ l ≤ 9223372036854775807) (hv : 0 ≤ v ∧ v ≤ 1000) :
    Calls Try.prog 54 #[.pointer (some ⟨b, 0, none⟩), .agg #[.int .i64 d, .int .i64 l, .int .i64 p], .int .i64 v] w fun e w' =>
      ∃ u, e = .returned u ∧ (∃ xs : List Int, xs.length ≤ 100 ∧ Own w' w.heap.size u xs) ∧ BX (srcP 82 b A n c bs B) w.heap.size w w' := by
  have hbw := srcP_lt hI
  have hbw1 : b < w.heap.size + 1 := by omega
  have HI := Lib.hid hI
  clear hI
  cases hc : fcodeB d l p
  · go_enter Try.func54, Try.ntmps54
    go_wp2_with first | (go_at_call 30; go_call (sIsFormatCode_any _ _ _ _ hl) as e1 w1 ⟨rfl, hbb1⟩; obtain ⟨hc1, hf1⟩ := bcell hbb1; have hB1 : BX (srcP 82 b A n c bs B) w.heap.size w w1 := BX.thenB (by (repeat (first | (with_reducible assumption) | (with_reducible exact BX.refl _ _ _) | (with_reducible refine BX.drewN ?_ _) | (with_reducible refine BX.drew ?_) | ((with_reducible refine BX.alloc ?_ ?_ _); rotate_left; (focus (first | (simp; done) | omega | (simp; omega) | (simp [srcP]; done) | (simp [srcP]; omega)))) | ((with_reducible refine BX.setCell ?_ ?_ ?_ _); rotate_left; (focus (first | (simp; done) | omega | (simp; omega) | (simp [srcP]; done) | (simp [srcP]; omega))); (focus (first | (simp; done) | omega | (simp; omega) | (simp [srcP]; done) | (simp [srcP]; omega))))))) (by first | omega | (simp; done) | (simp; omega)) hbb1; have hb1 := hbb1; have hz1a : w.heap.size < w1.heap.size := (by have := hb1.size; first | omega | (simp at this; omega)))
    go_ret
    exact ⟨_, rfl, ⟨[0, 1], by simp, Own.made2 0 1 (by omega)⟩, by (repeat (first | (with_reducible assumption) | (with_reducible exact BX.refl _ _ _) | (with_reducible refine BX.drewN ?_ _) | (with_reducible refine BX.drew ?_) | ((with_reducible refine BX.alloc ?_ ?_ _); rotate_left; (focus (first | (simp; done) | omega | (simp; omega) | (simp [srcP]; done) | (simp [srcP]; omega)))) | ((with_reducible refine BX.setCell ?_ ?_ ?_ _); rotate_left; (focus (first | (simp; done) | omega | (simp; omega) | (simp [srcP]; done) | (simp [srcP]; omega))); (focus (first | (simp; done) | omega | (simp; omega) | (simp [srcP]; done) | (simp [srcP]; omega))))))⟩
  · obtain ⟨D, k, P, rfl, rfl, rfl, hD0, hD, hk0, hk, hDk, hp⟩ := fcodeB_true hc
    obtain ⟨V, rfl⟩ := Int.eq_ofNat_of_zero_le hv.1
    have HP := Lib.hid hp
    have hm := and_mask V D (by omega) hD
    have hlt : V % 2 ^ D < 2 ^ D := Nat.mod_lt _ (Nat.two_pow_pos D)
    have HV := Lib.hid hlt
    clear hlt hp
    have hpw := pow_bd (k := D) (by omega)
    go_enter Try.func54, Try.ntmps54
    go_wp2_with first | (go_at_call 30; go_call (sIsFormatCode_any _ _ _ _ hl) as e1 w1 ⟨rfl, hbb1⟩; obtain ⟨hc1, hf1⟩ := bcell hbb1; have hB1 : BX (srcP 82 b A n c bs B) w.heap.size w w1 := BX.thenB (by (repeat (first | (with_reducible assumption) | (with_reducible exact BX.refl _ _ _) | (with_reducible refine BX.drewN ?_ _) | (with_reducible refine BX.drew ?_) | ((with_reducible refine BX.alloc ?_ ?_ _); rotate_left; (focus (first | (simp; done) | omega | (simp; omega) | (simp [srcP]; done) | (simp [srcP]; omega)))) | ((with_reducible refine BX.setCell ?_ ?_ ?_ _); rotate_left; (focus (first | (simp; done) | omega | (simp; omega) | (simp [srcP]; done) | (simp [srcP]; omega))); (focus (first | (simp; done) | omega | (simp; omega) | (simp [srcP]; done) | (simp [srcP]; omega))))))) (by first | omega | (simp; done) | (simp; omega)) hbb1; have hb1 := hbb1; have hz1a : w.heap.size < w1.heap.size := (by have := hb1.size; first | omega | (simp at this; omega))) | (go_at_call 38; go_call (l08Word_any D k P (V % 2 ^ D) _ hD0 hD hk0 hk HP.out HV.out) as e2 w2 ⟨v2, rfl, ho2, hbb2⟩; obtain ⟨hc2, hf2⟩ := bcell hbb2; have hB2 : BX (srcP 82 b A n c bs B) w.heap.size w w2 := BX.thenB (by (repeat (first | (with_reducible assumption) | (with_reducible exact BX.refl _ _ _) | (with_reducible refine BX.drewN ?_ _) | (with_reducible refine BX.drew ?_) | ((with_reducible refine BX.alloc ?_ ?_ _); rotate_left; (focus (first | (simp; done) | omega | (simp; omega) | (simp [srcP]; done) | (simp [srcP]; omega)))) | ((with_reducible refine BX.setCell ?_ ?_ ?_ _); rotate_left; (focus (first | (simp; done) | omega | (simp; omega) | (simp [srcP]; done) | (simp [srcP]; omega))); (focus (first | (simp; done) | omega | (simp; omega) | (simp [srcP]; done) | (simp [srcP]; omega))))))) (by first | omega | (simp; done) | (simp; omega)) hbb2; have hb2 := hbb2; have hz2a : w.heap.size < w2.heap.size := (by have := hb2.size; first | omega | (simp at this; omega)))
    have hlen := bitsL_len (D + k) (fword D (D + k) P (V % 2 ^ D))
    generalize bitsL (D + k) (fword D (D + k) P (V % 2 ^ D)) = xs0 at ho2 hlen
    obtain ⟨g, cap, hv, hgB, hgw, -, -⟩ := ho2.row (by omega)
    subst hv
    rw [hlen] at ho2 ⊢
    have HL0 := Lib.hid hlen
    have hh2 : Hid (w2.heap[w.heap.size]? = some (.cells #[.int .i64 (D : Int), .int .i64 ((D : Int) + (k : Int)), .int .i64 (P : Int)] 27 (0, 0))) := Lib.hid (blk_below (blk_below (heap_alloc_new w _) hb1 (by simp)) hb2 (by omega))
    have hbB : b < w1.heap.size := by omega
    have hwg : w.heap.size < g := by omega
    have hbg : b < g := by omega
    obtain ⟨i0, hi⟩ := info_own' info_i64s
    have HI0 := Lib.hid (And.intro i0.bytes.le_refl hi)
    clear hlen hi hb1 hc1 hf1 hc2 hf2 HV HP hm hpw
    (go_at_call 51; with_reducible refine (draw_any b A n c bs B (5) _ (bxinv (B := w.heap.size) ?_ HI) (by omega)).mono ?_; (focus (repeat (first | (with_reducible assumption) | (with_reducible exact BX.refl _ _ _) | (with_reducible refine BX.drewN ?_ _) | (with_reducible refine BX.drew ?_) | ((with_reducible refine BX.alloc ?_ ?_ _); rotate_left; (focus (first | (simp; done) | omega | (simp; omega) | (simp [srcP]; done) | (simp [srcP]; omega)))) | ((with_reducible refine BX.setCell ?_ ?_ ?_ _); rotate_left; (focus (first | (simp; done) | omega | (simp; omega) | (simp [srcP]; done) | (simp [srcP]; omega))); (focus (first | (simp; done) | omega | (simp; omega) | (simp [srcP]; done) | (simp [srcP]; omega))))))); rintro e3 w3 ⟨u3, rfl, ⟨r3, rfl, hr3a, hr3b⟩, hb3⟩; have hB3 : BX (srcP 82 b A n c bs B) w.heap.size w w3 := BX.then (by (repeat (first | (with_reducible assumption) | (with_reducible exact BX.refl _ _ _) | (with_reducible refine BX.drewN ?_ _) | (with_reducible refine BX.drew ?_) | ((with_reducible refine BX.alloc ?_ ?_ _); rotate_left; (focus (first | (simp; done) | omega | (simp; omega) | (simp [srcP]; done) | (simp [srcP]; omega)))) | ((with_reducible refine BX.setCell ?_ ?_ ?_ _); rotate_left; (focus (first | (simp; done) | omega | (simp; omega) | (simp [srcP]; done) | (simp [srcP]; omega))); (focus (first | (simp; done) | omega | (simp; omega) | (simp [srcP]; done) | (simp [srcP]; omega))))))) (by first | omega | (simp; done) | (simp; omega)) hb3; have hc3 := bxcell hb3; have hf3 := bxfrozen hb3; simp only [srcP_b] at hc3 hf3; have hz3a : w.heap.size < w3.heap.size := (by have := hb3.size; first | omega | (simp at this; omega)); have hz3b : w1.heap.size < w3.heap.size := (by have := hb3.size; first | omega | (simp at this; omega)))
    (have hh3 := Lib.hid (show w3.heap[w.heap.size]? = some (.cells #[.int .i64 (D : Int), .int .i64 ((D : Int) + (k : Int)), .int .i64 (P : Int)] 27 (0, 0)) from (hb3.block (w.heap.size) (by first | omega | (simp; done) | (simp; omega) | (simp [srcP]; omega)) (by first | omega | (simp; done) | (simp; omega) | (simp [srcP]; omega))).trans (by repeat (first | (with_reducible exact hh2.out) | (with_reducible exact heap_alloc_new _ _) | (rw [heap_drew1]) | (rw [heap_drewN1]) | (rw [Below.heap_setCell _ _ _ _ (by first | omega | (simp; done) | (simp; omega) | (simp [srcP]; omega))]) | (rw [Below.heap_alloc _ _ _ (by first | omega | (simp; done) | (simp; omega) | (simp [srcP]; omega))])))))
    have ho3 := Lib.hid (ho2.bx hb3 hbB)
    obtain ⟨M, rfl⟩ := Int.eq_ofNat_of_zero_le hr3a
    have hM : M ≤ 4 := by omega
    have HB3 := Lib.hid hB3
    clear ho2 hh2 hb2 hb3 hc3 hf3 hB2 hr3a hr3b hB1 hB3
    go_wp2_with fail
    go_loopw [8] (fun q wr => ∃ m : Nat, m ≤ 4 ∧ q = .int .i64 m ∧ Hid (∃ xs : List Int, xs.length = D + k ∧ Own wr w1.heap.size (.slice (some ⟨g, 0, none⟩) (D + k) cap) xs) ∧ Hid (BX (srcP 82 b A n c bs B) w.heap.size w wr) ∧ Hid (w1.heap.size < wr.heap.size ∧ wr.heap[w.heap.size]? = some (.cells #[.int .i64 (D : Int), .int .i64 ((D : Int) + (k : Int)), .int .i64 (P : Int)] 27 (0, 0))))
      (fun q _ => (intOf q).toNat)
    case atStart => exact ⟨M, hM, rfl, ⟨xs0, HL0.out, ho3.out⟩, HB3.out, by omega, hh3.out⟩
    case round =>
      obtain ⟨m, hm, rfl, hown, hbx, hhr⟩ := hrel
      obtain ⟨xs, hxl, hox⟩ := hown.out
      have HXL := Lib.hid hxl
      have HOX := Lib.hid hox
      have hBr := hbx.out
      have hwr := hhr.out.1
      have hwr2 : w.heap.size < wr.heap.size := by omega
      clear hxl hox
      rcases m with _ | m
      · go_wp2_with fail
        (go_at_call 51; with_reducible refine (draw_any b A n c bs B (40) _ (bxinv (B := w.heap.size) ?_ HI) (by omega)).mono ?_; (focus (repeat (first | (with_reducible assumption) | (with_reducible exact BX.refl _ _ _) | (with_reducible refine BX.drewN ?_ _) | (with_reducible refine BX.drew ?_) | ((with_reducible refine BX.alloc ?_ ?_ _); rotate_left; (focus (first | (simp; done) | omega | (simp; omega) | (simp [srcP]; done) | (simp [srcP]; omega)))) | ((with_reducible refine BX.setCell ?_ ?_ ?_ _); rotate_left; (focus (first | (simp; done) | omega | (simp; omega) | (simp [srcP]; done) | (simp [srcP]; omega))); (focus (first | (simp; done) | omega | (simp; omega) | (simp [srcP]; done) | (simp [srcP]; omega))))))); rintro e7 w7 ⟨u7, rfl, ⟨r7, rfl, hr7a, hr7b⟩, hb7⟩; have hB7 : BX (srcP 82 b A n c bs B) w.heap.size w w7 := BX.then (by (repeat (first | (with_reducible assumption) | (with_reducible exact BX.refl _ _ _) | (with_reducible refine BX.drewN ?_ _) | (with_reducible refine BX.drew ?_) | ((with_reducible refine BX.alloc ?_ ?_ _); rotate_left; (focus (first | (simp; done) | omega | (simp; omega) | (simp [srcP]; done) | (simp [srcP]; omega)))) | ((with_reducible refine BX.setCell ?_ ?_ ?_ _); rotate_left; (focus (first | (simp; done) | omega | (simp; omega) | (simp [srcP]; done) | (simp [srcP]; omega))); (focus (first | (simp; done) | omega | (simp; omega) | (simp [srcP]; done) | (simp [srcP]; omega))))))) (by first | omega | (simp; done) | (simp; omega)) hb7; have hc7 := bxcell hb7; have hf7 := bxfrozen hb7; simp only [srcP_b] at hc7 hf7; have hz7a : w.heap.size < w7.heap.size := (by have := hb7.size; first | omega | (simp at this; omega)); have hz7b : w1.heap.size < w7.heap.size := (by have := hb7.size; first | omega | (simp at this; omega)))
        have ho7 := Lib.hid (HOX.out.bx hb7 hbB)
        have hgw7 : g < w7.heap.size := by have := hb7.size; have := (World.ownsRow.lt HOX.out g rfl).2; omega
        clear hb7 hc7 hf7 hBr
        by_cases e0 : r7 = 0
        · subst e0
          have HI := HI0
          have hs7 : Hid (w1.heap.size ≤ w7.heap.size) := Lib.hid (by omega)
          have hl2 := HXL.out
          go_wp2_with (at_builtin; refine wpList_append_own _ rfl _ _ 24 rfl (w1.heap.size) 2 i0 (.int .i64 0) 1 8 Try.underlying24 HI.out.2.1 HI.out.2.2.1 HI.out.2.2.2.1 HI.out.2.2.2.2 rfl (by decide) _ _ _ rfl (Own.alloc ho7.out _) ⟨w7.heap.size, 0, none⟩ 1 1 [.int .i64 (0)] rfl rfl (cell_one_new _ _ _) (one_ok _) (own_max ho7.out (by omega)) (own_bytes ho7.out (by omega)) (own_base hs7.out) ?_; intro va wa howna hgrowa _; have hoa := Lib.hid (Own.snoc howna); have hga := Lib.hid hgrowa; clear howna hgrowa)
          go_ret
          exact ⟨_, rfl, ⟨xs ++ [0], by simp; omega, hoa.out.more (by omega)⟩, (BX.alloc hB7 (by omega) _).grown hga.out (by simp; omega) (fun j hj => by have := (World.ownsRow.lt ho7.out j hj).1; simp; omega)⟩
        · have e0' : (r7 == 0) = false := by simpa using e0
          by_cases e1 : r7 = 1
          · subst e1
            obtain ⟨g', c', e', hB', hg', hc', hf'⟩ := ho7.out.row (by rw [HXL.out]; omega)
            obtain ⟨rfl, rfl⟩ : g = g' ∧ cap = c' := by
              simp only [Value.slice.injEq, Option.some.injEq, Addr.mk.injEq, and_true] at e'
              exact ⟨e'.1, e'.2.2⟩
            have hck := hc' 0 (by rw [HXL.out]; omega)
            have hfk := hf' 0
            clear hc' hf' e' hB'
            go_wp2_with fail
            go_ret
            exact ⟨_, rfl, ⟨xs.set 0 2, by rw [List.length_set, HXL.out]; omega, (Own.setn HXL.out ho7.out).more (by omega)⟩, hB7.setCell (p := ⟨g, 0, none⟩) (show w.heap.size ≤ g by omega) (show b < g by omega) _⟩
          · have e1' : (r7 == 1) = false := by simpa using e1
            go_wp2_with fail
            go_ret
            exact ⟨_, rfl, ⟨xs, by rw [HXL.out]; omega, ho7.out.more (by omega)⟩, hB7⟩
      · obtain ⟨y0, y1, y2, -⟩ := blk3 hhr.out.2
        go_wp2_with fail
        (go_at_call 51; with_reducible refine (draw_any b A n c bs B ((D : Int) + (k : Int)) _ (bxinv (B := w.heap.size) ?_ HI) (by omega)).mono ?_; (focus (repeat (first | (with_reducible assumption) | (with_reducible exact BX.refl _ _ _) | (with_reducible refine BX.drewN ?_ _) | (with_reducible refine BX.drew ?_) | ((with_reducible refine BX.alloc ?_ ?_ _); rotate_left; (focus (first | (simp; done) | omega | (simp; omega) | (simp [srcP]; done) | (simp [srcP]; omega)))) | ((with_reducible refine BX.setCell ?_ ?_ ?_ _); rotate_left; (focus (first | (simp; done) | omega | (simp; omega) | (simp [srcP]; done) | (simp [srcP]; omega))); (focus (first | (simp; done) | omega | (simp; omega) | (simp [srcP]; done) | (simp [srcP]; omega))))))); rintro e4 w4 ⟨u4, rfl, ⟨r4, rfl, hr4a, hr4b⟩, hb4⟩; have hB4 : BX (srcP 82 b A n c bs B) w.heap.size w w4 := BX.then (by (repeat (first | (with_reducible assumption) | (with_reducible exact BX.refl _ _ _) | (with_reducible refine BX.drewN ?_ _) | (with_reducible refine BX.drew ?_) | ((with_reducible refine BX.alloc ?_ ?_ _); rotate_left; (focus (first | (simp; done) | omega | (simp; omega) | (simp [srcP]; done) | (simp [srcP]; omega)))) | ((with_reducible refine BX.setCell ?_ ?_ ?_ _); rotate_left; (focus (first | (simp; done) | omega | (simp; omega) | (simp [srcP]; done) | (simp [srcP]; omega))); (focus (first | (simp; done) | omega | (simp; omega) | (simp [srcP]; done) | (simp [srcP]; omega))))))) (by first | omega | (simp; done) | (simp; omega)) hb4; have hc4 := bxcell hb4; have hf4 := bxfrozen hb4; simp only [srcP_b] at hc4 hf4; have hz4a : w.heap.size < w4.heap.size := (by have := hb4.size; first | omega | (simp at this; omega)); have hz4b : w1.heap.size < w4.heap.size := (by have := hb4.size; first | omega | (simp at this; omega)))
        (have hh4 := Lib.hid (show w4.heap[w.heap.size]? = some (.cells #[.int .i64 (D : Int), .int .i64 ((D : Int) + (k : Int)), .int .i64 (P : Int)] 27 (0, 0)) from (hb4.block (w.heap.size) (by first | omega | (simp; done) | (simp; omega) | (simp [srcP]; omega)) (by first | omega | (simp; done) | (simp; omega) | (simp [srcP]; omega))).trans (by repeat (first | (with_reducible exact hhr.out.2) | (with_reducible exact heap_alloc_new _ _) | (rw [heap_drew1]) | (rw [heap_drewN1]) | (rw [Below.heap_setCell _ _ _ _ (by first | omega | (simp; done) | (simp; omega) | (simp [srcP]; omega))]) | (rw [Below.heap_alloc _ _ _ (by first | omega | (simp; done) | (simp; omega) | (simp [srcP]; omega))])))))
        clear hc4 hf4 y0 y1 y2
        go_wp2_with fail
        (go_at_call 51; with_reducible refine (draw_any b A n c bs B (3) _ (bxinv (B := w.heap.size) ?_ HI) (by omega)).mono ?_; (focus (repeat (first | (with_reducible assumption) | (with_reducible exact BX.refl _ _ _) | (with_reducible refine BX.drewN ?_ _) | (with_reducible refine BX.drew ?_) | ((with_reducible refine BX.alloc ?_ ?_ _); rotate_left; (focus (first | (simp; done) | omega | (simp; omega) | (simp [srcP]; done) | (simp [srcP]; omega)))) | ((with_reducible refine BX.setCell ?_ ?_ ?_ _); rotate_left; (focus (first | (simp; done) | omega | (simp; omega) | (simp [srcP]; done) | (simp [srcP]; omega))); (focus (first | (simp; done) | omega | (simp; omega) | (simp [srcP]; done) | (simp [srcP]; omega))))))); rintro e5 w5 ⟨u5, rfl, ⟨r5, rfl, hr5a, hr5b⟩, hb5⟩; have hB5 : BX (srcP 82 b A n c bs B) w.heap.size w w5 := BX.then (by (repeat (first | (with_reducible assumption) | (with_reducible exact BX.refl _ _ _) | (with_reducible refine BX.drewN ?_ _) | (with_reducible refine BX.drew ?_) | ((with_reducible refine BX.alloc ?_ ?_ _); rotate_left; (focus (first | (simp; done) | omega | (simp; omega) | (simp [srcP]; done) | (simp [srcP]; omega)))) | ((with_reducible refine BX.setCell ?_ ?_ ?_ _); rotate_left; (focus (first | (simp; done) | omega | (simp; omega) | (simp [srcP]; done) | (simp [srcP]; omega))); (focus (first | (simp; done) | omega | (simp; omega) | (simp [srcP]; done) | (simp [srcP]; omega))))))) (by first | omega | (simp; done) | (simp; omega)) hb5; have hc5 := bxcell hb5; have hf5 := bxfrozen hb5; simp only [srcP_b] at hc5 hf5; have hz5a : w.heap.size < w5.heap.size := (by have := hb5.size; first | omega | (simp at this; omega)); have hz5b : w1.heap.size < w5.heap.size := (by have := hb5.size; first | omega | (simp at this; omega)))
        (have hh5 := Lib.hid (show w5.heap[w.heap.size]? = some (.cells #[.int .i64 (D : Int), .int .i64 ((D : Int) + (k : Int)), .int .i64 (P : Int)] 27 (0, 0)) from (hb5.block (w.heap.size) (by first | omega | (simp; done) | (simp; omega) | (simp [srcP]; omega)) (by first | omega | (simp; done) | (simp; omega) | (simp [srcP]; omega))).trans (by repeat (first | (with_reducible exact hh4.out) | (with_reducible exact heap_alloc_new _ _) | (rw [heap_drew1]) | (rw [heap_drewN1]) | (rw [Below.heap_setCell _ _ _ _ (by first | omega | (simp; done) | (simp; omega) | (simp [srcP]; omega))]) | (rw [Below.heap_alloc _ _ _ (by first | omega | (simp; done) | (simp; omega) | (simp [srcP]; omega))])))))
        obtain ⟨R, rfl⟩ := Int.eq_ofNat_of_zero_le hr4a
        have hR : R < D + k := by omega
        have ho5 := Lib.hid ((HOX.out.bx hb4 hbB).bx hb5 hbB)
        obtain ⟨g', c', e', hB', hg', hc', hf'⟩ := ho5.out.row (by rw [HXL.out]; omega)
        obtain ⟨rfl, rfl⟩ : g = g' ∧ cap = c' := by
          simp only [Value.slice.injEq, Option.some.injEq, Addr.mk.injEq, and_true] at e'
          exact ⟨e'.1, e'.2.2⟩
        have hck := hc' R (by rw [HXL.out]; exact hR)
        have hfk := hf' R
        clear hc' hf' e' hB' hc5 hf5
        go_wp2_with fail
        go_roundw
        case rel => exact ⟨m, by omega, by go_num, Lib.hid ⟨xs.set R (r5 - 1), by rw [List.length_set]; exact HXL.out, Own.setn HXL.out ho5.out⟩, Lib.hid (hB5.setCell (p := ⟨g, R, none⟩) (show w.heap.size ≤ g by omega) (show b < g by omega) _), Lib.hid ⟨by simp; omega, blk_other hh5.out (by omega)⟩⟩
        case measure => simp [intOf]
end Go.Proofs.Ytkdaodfhilhfgaa
