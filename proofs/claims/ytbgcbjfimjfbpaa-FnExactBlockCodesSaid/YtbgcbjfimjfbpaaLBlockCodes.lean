/-
  The row FnExactBlockCodes: for every layout the program's BlockCodes returns what the reference's returns, in memory of its own; no condition.
-/
import Derived.Test.YtbgcbjfimjfbpaaC07B
import Derived.Test.YtbgcbjfimjfbpaaFrame
namespace Go.Proofs.Ytbgcbjfimjfbpaa
set_option linter.unusedSimpArgs false
open Go.ChangeShapes Go.WideShapes Go.ChangeAt Go.RowKit Go.Deep

theorem toField_any7 (p k g : Int) (w : World) :
    Calls Try.prog 50 #[.agg #[.int .i64 p, .int .i64 k, .int .i64 g]] w fun e w' => e = .returned (.agg #[.int .i64 p, .int .i64 k, .int .i64 g]) ∧ Below w.heap.size w w' := by
  go_enter Try.func50, Try.ntmps50
  go_wp2_with fail
  (try simp only [Exit.inBlock, Exit.then]); refine bodyPost_ret (by simp [results, Try.results50, go_sem, ]; try rfl) rfl ?_
  exact ⟨rfl, by (repeat (first | (with_reducible assumption) | (with_reducible exact Below.refl _ _) | (with_reducible refine below_drewN' ?_ _) | (with_reducible refine Below.drew ?_) | ((with_reducible refine Below.alloc ?_ ?_ _); rotate_left; focus (first | (simp; done) | (simp; omega) | omega)) | ((with_reducible refine Below.setCell ?_ ?_ _); rotate_left; focus (first | (simp; done) | (simp; omega) | omega))))⟩
set_option maxHeartbeats 2000000 in
theorem toLayout_any (p k g d h c : Int) (w : World) :
    Calls Try.prog 27 #[.agg #[.int .i64 p, .int .i64 k, .int .i64 g, .int .i64 d, .int .i64 h, .int .i64 c]] w fun e w' => e = .returned (.agg #[.int .i64 p, .int .i64 k, .int .i64 g, .int .i64 d, .int .i64 h, .int .i64 c]) ∧ Below w.heap.size w w' := by
  have HE := Lib.hid (fun w => toField_any7 p k g w)
  go_enter Try.func27, Try.ntmps27
  go_wp2_with fail
  (go_at_call 50; with_reducible refine (HE.out _).mono ?_; rintro e1 w1 ⟨rfl, hb1⟩; obtain ⟨hc1, hf1⟩ := bcell hb1; have hB1 : Below w.heap.size w w1 := (below_then (by first | (go_grown; done) | (repeat (first | (with_reducible assumption) | (with_reducible exact Below.refl _ _) | (with_reducible refine below_drewN' ?_ _) | (with_reducible refine Below.drew ?_) | ((with_reducible refine Below.alloc ?_ ?_ _); rotate_left; focus (first | (simp; done) | (simp; omega) | omega)) | ((with_reducible refine Below.setCell ?_ ?_ _); rotate_left; focus (first | (simp; done) | (simp; omega) | omega))))) (by first | omega | (simp; done) | (simp; omega)) hb1); have hz1a : w.heap.size < w1.heap.size := (by have := hb1.size; first | omega | (simp at this; omega)); have hz1b : w.heap.size + 1 < w1.heap.size := (by have := hb1.size; first | omega | (simp at this; omega)); have hz1c : w.heap.size + 1 + 1 < w1.heap.size := (by have := hb1.size; first | omega | (simp at this; omega)))
  have hP1 : w1.heap[w.heap.size]? = some (.cells #[.int .i64 p, .int .i64 k, .int .i64 g, .int .i64 d, .int .i64 h, .int .i64 c] 50 (0, 0)) := by
    refine blk_below ?_ hb1 (by first | (simp; done) | (simp; omega))
    (repeat (first | (with_reducible exact heap_alloc_new _ _) | (rw [heap_drew1]) | (rw [heap_drewN1]) | (rw [Below.heap_setCell _ _ _ _ (by first | omega | (simp; done) | (simp; omega))]) | (rw [Below.heap_alloc _ _ _ (by first | omega | (simp; done) | (simp; omega))]) | (exact heap_alloc_at (by first | omega | (simp; done) | (simp; omega)))))
  have hR1 : w1.heap[w.heap.size + 1]? = some (.cells #[.int .i64 0, .int .i64 0, .int .i64 0, .int .i64 0, .int .i64 0, .int .i64 0] 30 (0, 0)) := by
    refine blk_below ?_ hb1 (by first | (simp; done) | (simp; omega))
    (repeat (first | (with_reducible exact heap_alloc_new _ _) | (rw [heap_drew1]) | (rw [heap_drewN1]) | (rw [Below.heap_setCell _ _ _ _ (by first | omega | (simp; done) | (simp; omega))]) | (rw [Below.heap_alloc _ _ _ (by first | omega | (simp; done) | (simp; omega))]) | (exact heap_alloc_at (by first | omega | (simp; done) | (simp; omega)))))
  have hT1 : w1.heap[w.heap.size + 1 + 1]? = some (.cells #[.int .i64 0, .int .i64 0, .int .i64 0, .int .i64 0, .int .i64 0, .int .i64 0] 30 (0, 0)) := by
    refine blk_below ?_ hb1 (by first | (simp; done) | (simp; omega))
    (repeat (first | (with_reducible exact heap_alloc_new _ _) | (rw [heap_drew1]) | (rw [heap_drewN1]) | (rw [Below.heap_setCell _ _ _ _ (by first | omega | (simp; done) | (simp; omega))]) | (rw [Below.heap_alloc _ _ _ (by first | omega | (simp; done) | (simp; omega))]) | (exact heap_alloc_at (by first | omega | (simp; done) | (simp; omega)))))
  obtain ⟨p0, p1, p2, p3, p4, p5, -⟩ := blk6 hP1
  obtain ⟨t0, t1, t2, t3, t4, t5, tf⟩ := blk6 hT1
  have HR1 := Lib.hid hR1
  have HT1 := Lib.hid hT1
  clear hc1 hf1 hP1 hT1 hR1
  go_upto_region 6 with (fail)
  have hQ := res6 HT1.out (.int .i64 p) (.int .i64 k) (.int .i64 g) (.int .i64 d) (.int .i64 h) (.int .i64 c)
  have hR2 : ((((((w1.setCell ⟨w.heap.size + 1 + 1, 0, none⟩ (.int .i64 p)).setCell ⟨w.heap.size + 1 + 1, 1, none⟩ (.int .i64 k)).setCell ⟨w.heap.size + 1 + 1, 2, none⟩ (.int .i64 g)).setCell ⟨w.heap.size + 1 + 1, 3, none⟩ (.int .i64 d)).setCell ⟨w.heap.size + 1 + 1, 4, none⟩ (.int .i64 h)).setCell ⟨w.heap.size + 1 + 1, 5, none⟩ (.int .i64 c)).heap[w.heap.size + 1]? = some (.cells #[.int .i64 0, .int .i64 0, .int .i64 0, .int .i64 0, .int .i64 0, .int .i64 0] 30 (0, 0)) := by (repeat (first | (with_reducible exact HR1.out) | (with_reducible exact heap_alloc_new _ _) | (rw [heap_drew1]) | (rw [heap_drewN1]) | (rw [Below.heap_setCell _ _ _ _ (by first | omega | (simp; done) | (simp; omega))]) | (rw [Below.heap_alloc _ _ _ (by first | omega | (simp; done) | (simp; omega))]) | (exact heap_alloc_at (by first | omega | (simp; done) | (simp; omega)))))
  have hB5 : Below w.heap.size w ((((((w1.setCell ⟨w.heap.size + 1 + 1, 0, none⟩ (.int .i64 p)).setCell ⟨w.heap.size + 1 + 1, 1, none⟩ (.int .i64 k)).setCell ⟨w.heap.size + 1 + 1, 2, none⟩ (.int .i64 g)).setCell ⟨w.heap.size + 1 + 1, 3, none⟩ (.int .i64 d)).setCell ⟨w.heap.size + 1 + 1, 4, none⟩ (.int .i64 h)).setCell ⟨w.heap.size + 1 + 1, 5, none⟩ (.int .i64 c)) := by (repeat (first | (with_reducible assumption) | (with_reducible exact Below.refl _ _) | (with_reducible refine below_drewN' ?_ _) | (with_reducible refine Below.drew ?_) | ((with_reducible refine Below.alloc ?_ ?_ _); rotate_left; focus (first | (simp; done) | (simp; omega) | omega)) | ((with_reducible refine Below.setCell ?_ ?_ _); rotate_left; focus (first | (simp; done) | (simp; omega) | omega))))
  have hs5 : ((((((w1.setCell ⟨w.heap.size + 1 + 1, 0, none⟩ (.int .i64 p)).setCell ⟨w.heap.size + 1 + 1, 1, none⟩ (.int .i64 k)).setCell ⟨w.heap.size + 1 + 1, 2, none⟩ (.int .i64 g)).setCell ⟨w.heap.size + 1 + 1, 3, none⟩ (.int .i64 d)).setCell ⟨w.heap.size + 1 + 1, 4, none⟩ (.int .i64 h)).setCell ⟨w.heap.size + 1 + 1, 5, none⟩ (.int .i64 c)).heap.size = w1.heap.size := by simp
  generalize ((((((w1.setCell ⟨w.heap.size + 1 + 1, 0, none⟩ (.int .i64 p)).setCell ⟨w.heap.size + 1 + 1, 1, none⟩ (.int .i64 k)).setCell ⟨w.heap.size + 1 + 1, 2, none⟩ (.int .i64 g)).setCell ⟨w.heap.size + 1 + 1, 3, none⟩ (.int .i64 d)).setCell ⟨w.heap.size + 1 + 1, 4, none⟩ (.int .i64 h)).setCell ⟨w.heap.size + 1 + 1, 5, none⟩ (.int .i64 c)) = W5 at hQ hR2 hB5 hs5 ⊢
  obtain ⟨s0, s1, s2, s3, s4, s5, -⟩ := blk6 (res6 hR2 (.int .i64 p) (.int .i64 k) (.int .i64 g) (.int .i64 d) (.int .i64 h) (.int .i64 c))
  clear p0 p1 p2 p3 p4 p5 t0 t1 t2 t3 t4 t5 tf
  obtain ⟨z0, z1, z2, z3, z4, z5, zf⟩ := blk6 hR2
  obtain ⟨q0, q1, q2, q3, q4, q5, -⟩ := blk6 hQ
  clear hQ hR2 hB1
  go_wp2_with fail
  (try simp only [Exit.inBlock, Exit.then]); refine bodyPost_ret (by simp [results, Try.results27, go_sem, s0, s1, s2, s3, s4, s5]; try rfl) rfl ?_
  exact ⟨rfl, by (repeat (first | (with_reducible assumption) | (with_reducible exact Below.refl _ _) | (with_reducible refine below_drewN' ?_ _) | (with_reducible refine Below.drew ?_) | ((with_reducible refine Below.alloc ?_ ?_ _); rotate_left; focus (first | (simp; done) | (simp; omega) | omega)) | ((with_reducible refine Below.setCell ?_ ?_ _); rotate_left; focus (first | (simp; done) | (simp; omega) | omega))))⟩
theorem markCodeS_all (v : Value) (n : Nat) (fs : List Int) (w : World) (B : Nat) (ho : OwnF w B v n fs) (hn : n ≤ 100000) :
    Calls Try.prog 30 #[v, .int .i64 1] w fun e w' => e = .returned (.int .i64 (1 + 5 * n)) ∧ OwnF w' B v n (marks 1 (n * 5)) ∧ w.grownBy w' v.ownBlock := by
  rcases Nat.eq_zero_or_pos n with rfl | h0
  · have hl : fs = [] := List.length_eq_zero_iff.1 (by have := ho.len; omega)
    subst hl
    have HO := Lib.hid ho
    obtain ⟨A, c, rfl⟩ := ho.shape
    clear ho
    go_enter Try.func30, Try.ntmps30
    go_wp2_with fail
    refine wp_loop_rounds 1 ?_
    rw [rounds_succ]
    go_wp2_with fail
    go_ret
    exact ⟨ret_int (by simp), HO.out, World.grownBy.refl _ _⟩
  · exact markCodeS_any v n fs 1 w B ho h0 hn (by omega) (by omega)
theorem heldCodeS_all (v : Value) (n : Nat) (w : World) (B : Nat) (ho : OwnF w B v n (marks 1 (n * 5))) (hn : n ≤ 100000) :
    Calls Try.prog 31 #[v, .int .i64 1] w fun e w' => e = .returned (.int .i64 (1 + 5 * n)) ∧ w = w' := by
  rcases Nat.eq_zero_or_pos n with rfl | h0
  · obtain ⟨A, c, rfl⟩ := ho.shape
    clear ho
    go_enter Try.func31, Try.ntmps31
    go_wp2_with fail
    refine wp_loop_rounds 1 ?_
    rw [rounds_succ]
    go_wp2_with fail
    go_ret
    exact ⟨ret_int (by simp), rfl⟩
  · exact heldCodeS_any v n 1 w B ho h0 hn (by omega) (by omega)
theorem bcN_le (p k g data chk cnt : Int) : bcN (layB p k g data chk cnt) cnt.toNat ≤ 16 := by
  cases hl : layB p k g data chk cnt
  · rw [bcN_no]; omega
  · obtain ⟨D, C, H, rfl, rfl, rfl, hC1, hC2, -⟩ := layB_true hl
    rw [bcN_yes, Int.toNat_natCast]; exact hC2
set_option maxRecDepth 20000 in
set_option maxHeartbeats 4000000 in
theorem lawBlockCodes (p k g d h c : Int) (w : World) :
    Calls Try.prog 5 #[.agg #[.int .i64 p, .int .i64 k, .int .i64 g, .int .i64 d, .int .i64 h, .int .i64 c]] w fun e' w' => e' = .returned (.bool true) ∧ Below w.heap.size w w' := by
  have HTL := Lib.hid (fun w => toLayout_any p k g d h c w)
  have S1 := Lib.hid (fun w => sBlockCodes_any p k g d h c w)
  have S2 := Lib.hid (fun w => BlockCodes_any p k g d h c w)
  have hN := bcN_le p k g d h c
  generalize bcN (layB p k g d h c) c.toNat = n at S1 S2 hN
  generalize bcF (layB p k g d h c) (bcL p k g d.toNat h.toNat c.toNat c.toNat) = fs at S1 S2
  generalize bcC (layB p k g d h c) = C at S1 S2
  have h1 : (C != C) = false := by simp
  have h3 : ((1 + 5 * (n : Int)) != (1 + 5 * (n : Int))) = false := by simp
  have h4 : ¬ (1 + 5 * (n : Int)) < 0 := by omega
  go_enter Try.func5, Try.ntmps5
  go_wp2_with fail
  (go_at_call 27; with_reducible refine (HTL.out _).mono ?_; rintro e1 w1 ⟨rfl, hb1⟩; obtain ⟨hc1, hf1⟩ := bcell hb1; have hB1 : Below w.heap.size w w1 := (below_then (by first | (go_grown; done) | (repeat (first | (with_reducible assumption) | (with_reducible exact Below.refl _ _) | (with_reducible refine below_drewN' ?_ _) | (with_reducible refine Below.drew ?_) | ((with_reducible refine Below.alloc ?_ ?_ _); rotate_left; focus (first | (simp; done) | (simp; omega) | omega)) | ((with_reducible refine Below.setCell ?_ ?_ _); rotate_left; focus (first | (simp; done) | (simp; omega) | omega))))) (by first | omega | (simp; done) | (simp; omega)) hb1); have hz1a : w.heap.size < w1.heap.size := (by have := hb1.size; first | omega | (simp at this; omega)))
  have hh1 := blk_below (heap_alloc_new w (.cells #[.int .i64 p, .int .i64 k, .int .i64 g, .int .i64 d, .int .i64 h, .int .i64 c] 50)) hb1 (by simp)
  clear hc1 hf1
  go_wp2_with fail
  (go_at_call 26; with_reducible refine (S1.out _).mono ?_; rintro e2 w2 ⟨v2, rfl, ho2, hb2⟩; obtain ⟨hc2, hf2⟩ := bcell hb2; have hB2 : Below w.heap.size w w2 := (below_then (by first | (go_grown; done) | (repeat (first | (with_reducible assumption) | (with_reducible exact Below.refl _ _) | (with_reducible refine below_drewN' ?_ _) | (with_reducible refine Below.drew ?_) | ((with_reducible refine Below.alloc ?_ ?_ _); rotate_left; focus (first | (simp; done) | (simp; omega) | omega)) | ((with_reducible refine Below.setCell ?_ ?_ _); rotate_left; focus (first | (simp; done) | (simp; omega) | omega))))) (by first | omega | (simp; done) | (simp; omega)) hb2); have hz2a : w.heap.size < w2.heap.size := (by have := hb2.size; first | omega | (simp at this; omega)))
  have hh2 := blk_below hh1 hb2 hz1a
  obtain ⟨y0, y1, y2, y3, y4, y5, -⟩ := blk6 hh2
  clear hc2 hf2 hh1
  go_wp2_with fail
  (go_at_call 27; with_reducible refine (HTL.out _).mono ?_; rintro e3 w3 ⟨rfl, hb3⟩; obtain ⟨hc3, hf3⟩ := bcell hb3; have hB3 : Below w.heap.size w w3 := (below_then (by first | (go_grown; done) | (repeat (first | (with_reducible assumption) | (with_reducible exact Below.refl _ _) | (with_reducible refine below_drewN' ?_ _) | (with_reducible refine Below.drew ?_) | ((with_reducible refine Below.alloc ?_ ?_ _); rotate_left; focus (first | (simp; done) | (simp; omega) | omega)) | ((with_reducible refine Below.setCell ?_ ?_ _); rotate_left; focus (first | (simp; done) | (simp; omega) | omega))))) (by first | omega | (simp; done) | (simp; omega)) hb3); have hz3a : w.heap.size < w3.heap.size := (by have := hb3.size; first | omega | (simp at this; omega)))
  have hh3 := blk_below hh2 hb3 hz2a
  have ho23 := ho2.keep hb3
  clear hc3 hf3 hh2 y0 y1 y2 y3 y4 y5
  go_wp2_with fail
  (go_at_call 28; with_reducible refine (S2.out _).mono ?_; rintro e4 w4 ⟨v4, rfl, ho4, hb4⟩; obtain ⟨hc4, hf4⟩ := bcell hb4; have hB4 : Below w.heap.size w w4 := (below_then (by first | (go_grown; done) | (repeat (first | (with_reducible assumption) | (with_reducible exact Below.refl _ _) | (with_reducible refine below_drewN' ?_ _) | (with_reducible refine Below.drew ?_) | ((with_reducible refine Below.alloc ?_ ?_ _); rotate_left; focus (first | (simp; done) | (simp; omega) | omega)) | ((with_reducible refine Below.setCell ?_ ?_ _); rotate_left; focus (first | (simp; done) | (simp; omega) | omega))))) (by first | omega | (simp; done) | (simp; omega)) hb4); have hz4a : w.heap.size < w4.heap.size := (by have := hb4.size; first | omega | (simp at this; omega)))
  have hh4 := Lib.hid (blk_below hh3 hb4 hz3a)
  have HO24 := Lib.hid (ho23.keep hb4)
  have HO4 := Lib.hid ho4
  have HS4 := Lib.hid (show w1.heap.size ≤ w2.heap.size ∧ w2.heap.size ≤ w3.heap.size ∧ w3.heap.size ≤ w4.heap.size ∧ w.heap.size < w1.heap.size from ⟨hb2.size, hb3.size, hb4.size, hz1a⟩)
  have HO2 := Lib.hid ho2
  clear hc4 hf4 hh3 ho23 ho4 ho2
  go_wp2_with fail
  (go_at_call 29; go_call (eqCodeS_same v4 v2 n fs _ _ _ HO4.out HO24.out (by omega)) as e5 w5 ⟨rfl, hb5⟩; obtain ⟨hc5, hf5⟩ := bcell hb5; have hB5 : Below w.heap.size w w5 := (below_then (by first | (go_grown; done) | (repeat (first | (with_reducible assumption) | (with_reducible exact Below.refl _ _) | (with_reducible refine below_drewN' ?_ _) | (with_reducible refine Below.drew ?_) | ((with_reducible refine Below.alloc ?_ ?_ _); rotate_left; focus (first | (simp; done) | (simp; omega) | omega)) | ((with_reducible refine Below.setCell ?_ ?_ _); rotate_left; focus (first | (simp; done) | (simp; omega) | omega))))) (by first | omega | (simp; done) | (simp; omega)) hb5); have hz5a : w.heap.size < w5.heap.size := (by have := hb5.size; first | omega | (simp at this; omega)))
  have hh5 := Lib.hid (blk_below hh4.out hb5 hz4a)
  have HO5 := Lib.hid (HO4.out.keep hb5)
  have HO25 := Lib.hid (HO24.out.keep hb5)
  have HS5 := Lib.hid hb5.size
  clear hc5 hf5
  go_wp2_with fail
  go_at_call 30
  with_reducible refine (markCodeS_all v4 n fs _ _ HO5.out (by omega)).mono ?_
  rintro e6 w6 ⟨rfl, ho6, hg6⟩
  have hs6 := hg6.size
  have HO6 := Lib.hid ho6
  have HO26 := Lib.hid (show OwnF w6 w1.heap.size v2 n fs from World.ownsRow.kept HO25.out hg6 (by
    cases hv : v2.ownBlock with
    | none => exact .inl rfl
    | some k =>
      refine .inr fun e => ?_
      have a := (World.ownsRow.lt HO2.out k hv).2
      have b := (World.ownsRow.lt HO4.out k e.symm).1
      have := HS4.out
      omega))
  have hB6 : Below w.heap.size w w6 := hB5.grown hg6 (by omega) (fun k hk => by have := (World.ownsRow.lt HO4.out k hk).1; have := HS4.out; omega)
  have hh6 := Lib.hid ((hg6.block w.heap.size hz5a (fun e => by have := (World.ownsRow.lt HO4.out _ e.symm).1; have := HS4.out; omega)).trans hh5.out)
  have hz6a : w.heap.size < w6.heap.size := by omega
  clear ho6
  go_wp2_with fail
  go_at_call 31
  with_reducible refine (heldCodeS_all v4 n _ _ HO6.out (by omega)).mono ?_
  rintro e7 w7 ⟨rfl, rfl⟩
  obtain ⟨y0, y1, y2, y3, y4, y5, -⟩ := blk6 hh6.out
  go_wp2_with fail
  (go_at_call 27; with_reducible refine (HTL.out _).mono ?_; rintro e8 w8 ⟨rfl, hb8⟩; obtain ⟨hc8, hf8⟩ := bcell hb8; have hB8 : Below w.heap.size w w8 := (below_then (by first | (go_grown; done) | (repeat (first | (with_reducible assumption) | (with_reducible exact Below.refl _ _) | (with_reducible refine below_drewN' ?_ _) | (with_reducible refine Below.drew ?_) | ((with_reducible refine Below.alloc ?_ ?_ _); rotate_left; focus (first | (simp; done) | (simp; omega) | omega)) | ((with_reducible refine Below.setCell ?_ ?_ _); rotate_left; focus (first | (simp; done) | (simp; omega) | omega))))) (by first | omega | (simp; done) | (simp; omega)) hb8); have hz8a : w.heap.size < w8.heap.size := (by have := hb8.size; first | omega | (simp at this; omega)))
  have HO68 := Lib.hid (HO6.out.keep hb8)
  have HO28 := Lib.hid (HO26.out.keep hb8)
  clear hc8 hf8 y0 y1 y2 y3 y4 y5
  go_wp2_with fail
  (go_at_call 28; with_reducible refine (S2.out _).mono ?_; rintro e9 w9 ⟨v9, rfl, ho9, hb9⟩; obtain ⟨hc9, hf9⟩ := bcell hb9; have hB9 : Below w.heap.size w w9 := (below_then (by first | (go_grown; done) | (repeat (first | (with_reducible assumption) | (with_reducible exact Below.refl _ _) | (with_reducible refine below_drewN' ?_ _) | (with_reducible refine Below.drew ?_) | ((with_reducible refine Below.alloc ?_ ?_ _); rotate_left; focus (first | (simp; done) | (simp; omega) | omega)) | ((with_reducible refine Below.setCell ?_ ?_ _); rotate_left; focus (first | (simp; done) | (simp; omega) | omega))))) (by first | omega | (simp; done) | (simp; omega)) hb9); have hz9a : w.heap.size < w9.heap.size := (by have := hb9.size; first | omega | (simp at this; omega)))
  have HO9 := Lib.hid ho9
  have HO69 := Lib.hid (HO68.out.keep hb9)
  have HO29 := Lib.hid (HO28.out.keep hb9)
  clear hc9 hf9 ho9
  go_wp2_with fail
  (go_at_call 29; go_call (eqCodeS_same v9 v2 n fs _ _ _ HO9.out HO29.out (by omega)) as e10 w10 ⟨rfl, hb10⟩; obtain ⟨hc10, hf10⟩ := bcell hb10; have hB10 : Below w.heap.size w w10 := (below_then (by first | (go_grown; done) | (repeat (first | (with_reducible assumption) | (with_reducible exact Below.refl _ _) | (with_reducible refine below_drewN' ?_ _) | (with_reducible refine Below.drew ?_) | ((with_reducible refine Below.alloc ?_ ?_ _); rotate_left; focus (first | (simp; done) | (simp; omega) | omega)) | ((with_reducible refine Below.setCell ?_ ?_ _); rotate_left; focus (first | (simp; done) | (simp; omega) | omega))))) (by first | omega | (simp; done) | (simp; omega)) hb10); have hz10a : w.heap.size < w10.heap.size := (by have := hb10.size; first | omega | (simp at this; omega)))
  have HO70 := Lib.hid (HO69.out.keep hb10)
  clear hc10 hf10
  go_wp2_with fail
  go_at_call 31
  with_reducible refine (heldCodeS_all v4 n _ _ HO70.out (by omega)).mono ?_
  rintro e11 w11 ⟨rfl, rfl⟩
  go_wp2_with fail
  go_ret
  exact ⟨rfl, hB10⟩
set_option maxRecDepth 100000 in
theorem lifted_FnExactBlockCodes (os : Os) (started : os.Started) (H : Type) (enc : TypeId × Value → H) :
    ReturnsInHanded {} Try.checked os 5 .any (Rows.fnExactBlockCodesSpec.pre6 enc Try.prog Try.f5 Rows.fnExactBlockCodesRow.domain false) (Rows.fnExactBlockCodesSpec.post enc Try.prog Try.f5 false true false false) := by
  refine law_lifted (C := Try.checked) (tb := 4) own started (by kernel_rfl) Try.func5
    (ChangeSpec.witness6 (enc := enc) (C := Try.checked) false ⟨#[], #[.agg #[.int .i64 0, .int .i64 0, .int .i64 0, .int .i64 0, .int .i64 0, .int .i64 0]], []⟩ 8 (by kernel_rfl) (by kernel_rfl) (by kernel_rfl) (by kernel_rfl))
    laidOut (by kernel_rfl) rfl rfl Try.underlying4 ?_ ?_
  · intro ds hd
    match ds, hd with
    | [e0], _ => rfl
  · intro W base args ds p hval hA hlt hsz
    have hval1 : ∀ (j : Nat) t v, Try.f5.params[j]? = some t → args[j]? = some v → Value.okWide Try.prog W .any base t v := hval
    have hA1 : DataW.TrodAll enc Try.prog W 0 (fun _ => true) true Try.f5.params.toList args.toList ds p := hA
    have hsz1 : (DataW.weightsEach Try.prog Try.f5.params.toList ds).all (· ≤ reachBytes) = true := hsz
    rw [Try.params5] at hval1 hA1 hsz1
    clear hval hA hsz
    obtain ⟨v0, d0, rfl, rfl, h0⟩ := trodAll_one hA1
    obtain ⟨xs, hl, rfl, _⟩ := ok_agg_ints (n := 6) (e := 2) Try.underlying50 (by kernel_rfl) (by kernel_rfl) Try.underlying2 (hval1 0 50 v0 rfl rfl)
    match xs, hl with
    | [p, k, g, d, h, c], _ => exact lawBlockCodes p k g d h c W
theorem holds_FnExactBlockCodes : Rows.FnExactBlockCodesSaid :=
  OpenClaim.holds_of_wide 5 Try.f5 rfl rfl rfl rfl rfl rfl rfl ⟨rfl, rfl, rfl, rfl, rfl⟩ rfl rfl rfl rfl rfl (by kernel_rfl) Try.func5 (by kernel_rfl)
    (of_decide_eq_true (by kernel_rfl)) (by unfold Func.isWrapper; first | (rw [if_pos (by decide +kernel)]; kernel_rfl) | (rw [if_neg (by decide +kernel)]; exact ⟨rfl, rfl⟩))
    (fun os started H enc _ => lifted_FnExactBlockCodes os started H enc)

end Go.Proofs.Ytbgcbjfimjfbpaa
