/-
  The card FnMaps: a quad is recovered from its map, and a parallelogram has an affine map, for every input; the tables of the library's numerals as the program's text lays them. Printed by gen/lfm.py.
-/
import Derived.Test.YtnhhbpdjapccpaaDoorFrameL
import Derived.Test.YtnhhbpdjapccpaaDoorMt
import Derived.Test.YtnhhbpdjapccpaaDoorMpl
import Derived.Test.YtnhhbpdjapccpaaDoorQom
import Derived.Test.YtnhhbpdjapccpaaDoorDq
import Derived.Test.YtnhhbpdjapccpaaDoorArgB
namespace Go.Proofs.YtnhhbpdjapccpaaDoor
set_option linter.unusedSimpArgs false
open Go.ChangeShapes Go.WideShapes Go.ChangeAt Go.RowKit

theorem mp_div {x y z : Int} (hz : 0 < z) (h : x = y * z) : x / z = y := by rw [h]; exact Int.mul_ediv_cancel _ (by omega)
theorem maps_all (ax ay bx bY cx cy dx dy : Int) : ∃ a b c d e f g h i K : Int, (quadB ax ay bx bY cx cy dx dy = (K == 0)) ∧
    (∀ w, Calls Tryd.prog 10 #[.agg #[.int .i64 ax, .int .i64 ay, .int .i64 bx, .int .i64 bY, .int .i64 cx, .int .i64 cy, .int .i64 dx, .int .i64 dy]] w fun r' w' => r' = .returned (.tuple #[.agg #[.int .i64 a, .int .i64 b, .int .i64 c, .int .i64 d, .int .i64 e, .int .i64 f, .int .i64 g, .int .i64 h, .int .i64 i], .int .i64 K]) ∧ Below w.heap.size w w') ∧
    (∀ w, Calls Tryd.prog 11 #[.agg #[.int .i64 ax, .int .i64 ay, .int .i64 bx, .int .i64 bY, .int .i64 cx, .int .i64 cy, .int .i64 dx, .int .i64 dy]] w fun r' w' => r' = .returned (.tuple #[.agg #[.int .i64 a, .int .i64 b, .int .i64 c, .int .i64 d, .int .i64 e, .int .i64 f, .int .i64 g, .int .i64 h, .int .i64 i], .int .i64 K]) ∧ Below w.heap.size w w') ∧
    (K = 0 → isMapB [a, b, c, d, e, f, g, h, i] = true ∧ (∀ w, Calls Tryd.prog 13 #[.agg #[.int .i64 a, .int .i64 b, .int .i64 c, .int .i64 d, .int .i64 e, .int .i64 f, .int .i64 g, .int .i64 h, .int .i64 i]] w fun r' w' => r' = .returned (.tuple #[.agg #[.int .i64 ax, .int .i64 ay, .int .i64 bx, .int .i64 bY, .int .i64 cx, .int .i64 cy, .int .i64 dx, .int .i64 dy], .int .i64 0]) ∧ Below w.heap.size w w') ∧ (g == 0 && h == 0) = ((ax - bx + cx - dx == 0) && (ay - bY + cy - dy == 0))) := by
  have P1 := fun w => MapOfQuad_any ax ay bx bY cx cy dx dy w
  have P2 := fun w => sMapOfQuad_any ax ay bx bY cx cy dx dy w
  cases hq : quadB ax ay bx bY cx cy dx dy
  · rw [(mq_no hq).1, (mq_no hq).2] at P1 P2
    exact ⟨0, 0, 0, 0, 0, 0, 0, 0, 0, 1, rfl, P1, P2, fun h => absurd h (by decide)⟩
  · rw [(mq_yes hq).1] at P1 P2
    have M := map_of hq
    obtain ⟨sa, sb, sc, sd, -⟩ := quadB_true hq
    generalize nth (mqL ax ay bx bY cx cy dx dy) 0 = a at *
    generalize nth (mqL ax ay bx bY cx cy dx dy) 1 = b at *
    generalize nth (mqL ax ay bx bY cx cy dx dy) 2 = c at *
    generalize nth (mqL ax ay bx bY cx cy dx dy) 3 = d at *
    generalize nth (mqL ax ay bx bY cx cy dx dy) 4 = e at *
    generalize nth (mqL ax ay bx bY cx cy dx dy) 5 = f at *
    generalize nth (mqL ax ay bx bY cx cy dx dy) 6 = g at *
    generalize nth (mqL ax ay bx bY cx cy dx dy) 7 = h at *
    generalize nth (mqL ax ay bx bY cx cy dx dy) 8 = i at *
    refine ⟨a, b, c, d, e, f, g, h, i, 0, rfl, P1, P2, fun _ => ⟨M.ok, fun w => ?_, ?_⟩⟩
    · have H := QuadOfMap_any a b c d e f g h i w
      rw [show imgI g h i 0 0 1 = i by unfold imgI; omega, show imgI g h i 1 0 1 = g + i by unfold imgI; omega, show imgI g h i 1 1 1 = g + h + i by unfold imgI; omega, show imgI g h i 0 1 1 = h + i by unfold imgI; omega,
        show imgI a b c 0 0 1 = c by unfold imgI; omega, show imgI a b c 1 0 1 = a + c by unfold imgI; omega, show imgI a b c 1 1 1 = a + b + c by unfold imgI; omega, show imgI a b c 0 1 1 = b + c by unfold imgI; omega,
        show imgI d e f 0 0 1 = f by unfold imgI; omega, show imgI d e f 1 0 1 = d + f by unfold imgI; omega, show imgI d e f 1 1 1 = d + e + f by unfold imgI; omega, show imgI d e f 0 1 1 = e + f by unfold imgI; omega,
        mp_div M.i0 M.ec, mp_div M.i0 M.ef, mp_div M.g0 M.ea, mp_div M.g0 M.ed, mp_div M.h0 M.eb, mp_div M.h0 M.ee, mp_div M.s0 M.es, mp_div M.s0 M.et,
        M.ok, decide_eq_true M.i0, decide_eq_true M.g0, decide_eq_true M.h0, decide_eq_true M.s0, sa, sb, sc, sd, hq] at H
      exact H
    · have hf := M.fl
      rw [Bool.eq_iff_iff]
      simpa using hf
set_option maxHeartbeats 4000000 in
theorem DrawMapOfQuad_any (A : Option Addr) (n c : Nat) (bs : List Int) (B : Nat) (w0 : World) (hb : RB w0 B A n bs) (hB0 : B ≤ w0.heap.size) (hn : n ≤ 4096) :
    Calls Tryd.prog 9 #[.slice A n c] w0 fun e w' =>
      ∃ u, e = .returned u ∧ (∃ ax ay bx bY cx cy dx dy : Int, u = .agg #[.int .i64 ax, .int .i64 ay, .int .i64 bx, .int .i64 bY, .int .i64 cx, .int .i64 cy, .int .i64 dx, .int .i64 dy]) ∧ Below w0.heap.size w0 w' := by
  have HRB := Lib.hid hb
  clear hb
  go_enter Tryd.func9, Tryd.ntmps9
  go_wp2_with fail
  (go_at_call 22; go_call (l01From_any A n c bs _ B (HRB.out.below ((Below.refl B w0).alloc hB0 _)) (by simp; omega) hn) as e w ⟨rfl, hs, hb0⟩)
  have hI : (srcP 67 (w0.heap.size + 1) A n c bs B).I w := ⟨by simpa using hs, (HRB.out.below ((Below.refl B w0).alloc hB0 _)).below (hb0.mono (by simp; omega)), by omega, hn⟩
  have hB0w : Below w0.heap.size w0 w := ((Below.refl _ _).alloc (Nat.le_refl _) _).trans (hb0.mono (by simp))
  have hh0 := blk_below (heap_alloc_new w0 (.cells #[.int .i64 0, .int .i64 0, .int .i64 0, .int .i64 0, .int .i64 0, .int .i64 0, .int .i64 0, .int .i64 0] 33)) hb0 (by simp)
  simp only [World.size_alloc]
  obtain ⟨b, hbd⟩ : ∃ b, w0.heap.size + 1 = b := ⟨_, rfl⟩
  rw [hbd] at hI ⊢
  have hbw := srcP_lt hI
  go_wp2_with fail
  go_at_call 21
  with_reducible refine (l24DrawQuad_any b A n c bs B w hI).mono ?_
  rintro e1 w1 ⟨u1, rfl, ⟨x0, x1, x2, x3, x4, x5, x6, x7, rfl⟩, hb1⟩
  have hh1 : w1.heap[w0.heap.size]? = some (.cells #[.int .i64 0, .int .i64 0, .int .i64 0, .int .i64 0, .int .i64 0, .int .i64 0, .int .i64 0, .int .i64 0] 33 (0, 0)) := (hb1.block w0.heap.size (by omega) (by simp; omega)).trans hh0
  have HBF := Lib.hid (hB0w.trans ((hb1.mono (show w0.heap.size ≤ w.heap.size by omega)).below (by simp; omega)))
  obtain ⟨z0, z1, z2, z3, z4, z5, z6, z7, zf⟩ := blk8 hh1
  obtain ⟨s0, s1, s2, s3, s4, s5, s6, s7, -⟩ := blk8 (res8 hh1 (.int .i64 x0) (.int .i64 x1) (.int .i64 x2) (.int .i64 x3) (.int .i64 x4) (.int .i64 x5) (.int .i64 x6) (.int .i64 x7))
  clear hI hb1 hh1 hh0 hs hb0 hB0w
  go_wp2_with fail
  (try simp only [Exit.inBlock, Exit.then]); refine bodyPost_ret (by simp [results, Tryd.results9, go_sem, s0, s1, s2, s3, s4, s5, s6, s7]; try rfl) rfl ?_
  exact ⟨_, rfl, ⟨_, _, _, _, _, _, _, _, rfl⟩, (Below.setCell (p := ⟨w0.heap.size, 7, none⟩) (Below.setCell (p := ⟨w0.heap.size, 6, none⟩) (Below.setCell (p := ⟨w0.heap.size, 5, none⟩) (Below.setCell (p := ⟨w0.heap.size, 4, none⟩) (Below.setCell (p := ⟨w0.heap.size, 3, none⟩) (Below.setCell (p := ⟨w0.heap.size, 2, none⟩) (Below.setCell (p := ⟨w0.heap.size, 1, none⟩) (Below.setCell (p := ⟨w0.heap.size, 0, none⟩) HBF.out (Nat.le_refl _) _) (Nat.le_refl _) _) (Nat.le_refl _) _) (Nat.le_refl _) _) (Nat.le_refl _) _) (Nat.le_refl _) _) (Nat.le_refl _) _) (Nat.le_refl _) _)⟩

theorem below_blurM {B : Nat} {w W : World} (h : Below B w W) (hB : B ≤ W.heap.size) (z : Blur W) : Below B w (blur z) := h.trans (z.below.mono hB)
theorem gen_worldM {P Q : World → Prop} {W : World} (h : Q W) (k : ∀ W', Q W' → P W') : P W := k W h
/-- What the law keeps: the quad, the two maps. -/
structure MPk (w0 : World) (bq bm bn : Nat) (oq om : Obj) (W : World) : Prop where
  bl : Below w0.heap.size w0 W
  kq : W.heap[bq]? = some oq
  km : W.heap[bm]? = some om
  kn : W.heap[bn]? = some om
theorem MPk.below {w0 W W' : World} {bq bm bn : Nat} {oq om : Obj} (h : MPk w0 bq bm bn oq om W) (hb : Below W.heap.size W W') : MPk w0 bq bm bn oq om W' :=
  ⟨h.bl.trans (hb.mono h.bl.size), blk_below h.kq hb (lt_of_block h.kq), blk_below h.km hb (lt_of_block h.km), blk_below h.kn hb (lt_of_block h.kn)⟩
set_option maxRecDepth 20000 in
set_option maxHeartbeats 8000000 in
theorem lawFnMaps (A : Option Addr) (n c : Nat) (bs : List Int) (w : World) (hr : RB w w.heap.size A n bs) (htab : TabOk w) :
    Calls Tryd.prog 4 #[.slice A n c] w fun e' w' => e' = .returned (.bool true) ∧ Below w.heap.size w w' := by
  have HR := Lib.hid hr
  have HT := Lib.hid htab
  clear hr htab
  by_cases hbig : 4096 < n
  · have hbd : decide (4096 < n) = true := decide_eq_true hbig
    go_enter Tryd.func4, Tryd.ntmps4
    go_wp2_with (go_at_call 8; go_call (big_any _ _ _ _) as e0 w0 ⟨rfl, hb0⟩; obtain ⟨hc0, hf0⟩ := bcell hb0; have hB0 : Below w.heap.size w w0 := (below_then (by first | (go_grown; done) | (repeat (first | (with_reducible assumption) | (with_reducible exact Below.refl _ _) | (with_reducible refine below_drewN' ?_ _) | (with_reducible refine Below.drew ?_) | ((with_reducible refine Below.alloc ?_ ?_ _); rotate_left; focus (first | (simp; done) | (simp; omega) | omega)) | ((with_reducible refine Below.setCell ?_ ?_ _); rotate_left; focus (first | (simp; done) | (simp; omega) | omega))))) (by first | omega | (simp; done) | (simp; omega)) hb0))
    go_ret
    exact ⟨rfl, by (repeat (first | (with_reducible assumption) | (with_reducible exact Below.refl _ _) | (with_reducible refine below_drewN' ?_ _) | (with_reducible refine Below.drew ?_) | ((with_reducible refine Below.alloc ?_ ?_ _); rotate_left; focus (first | (simp; done) | (simp; omega) | omega)) | ((with_reducible refine Below.setCell ?_ ?_ _); rotate_left; focus (first | (simp; done) | (simp; omega) | omega))))⟩
  · have hbd : decide (4096 < n) = false := decide_eq_false hbig
    have HD := Lib.hid (fun (w' : World) (hb : Below w.heap.size w w') => DrawMapOfQuad_any A n c bs w.heap.size w' (HR.out.below hb) hb.size (by omega))
    go_enter Tryd.func4, Tryd.ntmps4
    go_wp2_with first | (go_at_call 8; go_call (big_any _ _ _ _) as e0 w0 ⟨rfl, hb0⟩; obtain ⟨hc0, hf0⟩ := bcell hb0; have hB0 : Below w.heap.size w w0 := (below_then (by first | (go_grown; done) | (repeat (first | (with_reducible assumption) | (with_reducible exact Below.refl _ _) | (with_reducible refine below_drewN' ?_ _) | (with_reducible refine Below.drew ?_) | ((with_reducible refine Below.alloc ?_ ?_ _); rotate_left; focus (first | (simp; done) | (simp; omega) | omega)) | ((with_reducible refine Below.setCell ?_ ?_ _); rotate_left; focus (first | (simp; done) | (simp; omega) | omega))))) (by first | omega | (simp; done) | (simp; omega)) hb0))
    go_at_call 9
    with_reducible refine (HD.out _ hB0).mono ?_
    rintro e1 w1 ⟨u1, rfl, ⟨ax, ay, bx, bY, cx, cy, dx, dy, rfl⟩, hb1⟩
    have HB1 := Lib.hid (hB0.trans (hb1.mono hB0.size))
    have hs1 := HB1.out.size
    have hBq := HB1.out
    clear hb0 hb1 hB0 hc0 hf0 HD HR
    obtain ⟨a, b, cc, d, e, f, g, h, i, K, hqk, P1, P2, P3⟩ := maps_all ax ay bx bY cx cy dx dy
    have HP1 := Lib.hid P1
    have HP2 := Lib.hid P2
    have HIQ := Lib.hid (fun w => IsQuad_any ax ay bx bY cx cy dx dy w)
    rw [hqk] at HIQ
    have HQK := Lib.hid hqk
    have HP3 := Lib.hid P3
    clear P1 P2 P3 hqk
    have hkk : (K != K) = false := by simp
    have n0 : (a != a) = false := by simp
    have n1 : (b != b) = false := by simp
    have n2 : (cc != cc) = false := by simp
    have n3 : (d != d) = false := by simp
    have n4 : (e != e) = false := by simp
    have n5 : (f != f) = false := by simp
    have n6 : (g != g) = false := by simp
    have n7 : (h != h) = false := by simp
    have n8 : (i != i) = false := by simp
    have n9 : ((K == 0) != (K == 0)) = false := by simp
    have HQ1 := Lib.hid (heap_alloc_new w1 (.cells #[.int .i64 ax, .int .i64 ay, .int .i64 bx, .int .i64 bY, .int .i64 cx, .int .i64 cy, .int .i64 dx, .int .i64 dy] 33))
    go_wp2_with fail
    (go_at_call 10; with_reducible refine (HP1.out _).mono ?_; rintro e2 w2 ⟨rfl, hb2⟩; obtain ⟨hc2, hf2⟩ := bcell hb2; have hB2 : Below w.heap.size w w2 := (below_then (by first | (go_grown; done) | (repeat (first | (with_reducible assumption) | (with_reducible exact Below.refl _ _) | (with_reducible refine below_drewN' ?_ _) | (with_reducible refine Below.drew ?_) | ((with_reducible refine Below.alloc ?_ ?_ _); rotate_left; focus (first | (simp; done) | (simp; omega) | omega)) | ((with_reducible refine Below.setCell ?_ ?_ _); rotate_left; focus (first | (simp; done) | (simp; omega) | omega))))) (by first | omega | (simp; done) | (simp; omega)) hb2); have hz2a : w1.heap.size < w2.heap.size := (by have := hb2.size; first | omega | (simp at this; omega)))
    have HQ2 := Lib.hid (blk_below HQ1.out hb2 (by simp))
    have HM2 := Lib.hid (heap_alloc_new w2 (.cells #[.int .i64 a, .int .i64 b, .int .i64 cc, .int .i64 d, .int .i64 e, .int .i64 f, .int .i64 g, .int .i64 h, .int .i64 i] 25))
    obtain ⟨q0, q1, q2, q3, q4, q5, q6, q7, -⟩ := blk8 HQ2.out
    clear hc2 hf2
    go_wp2_with fail
    (go_at_call 11; with_reducible refine (HP2.out _).mono ?_; rintro e3 w3 ⟨rfl, hb3⟩; obtain ⟨hc3, hf3⟩ := bcell hb3; have hB3 : Below w.heap.size w w3 := (below_then (by first | (go_grown; done) | (repeat (first | (with_reducible assumption) | (with_reducible exact Below.refl _ _) | (with_reducible refine below_drewN' ?_ _) | (with_reducible refine Below.drew ?_) | ((with_reducible refine Below.alloc ?_ ?_ _); rotate_left; focus (first | (simp; done) | (simp; omega) | omega)) | ((with_reducible refine Below.setCell ?_ ?_ _); rotate_left; focus (first | (simp; done) | (simp; omega) | omega))))) (by first | omega | (simp; done) | (simp; omega)) hb3); have hz3a : w1.heap.size < w3.heap.size := (by have := hb3.size; first | omega | (simp at this; omega)); have hz3b : w2.heap.size < w3.heap.size := (by have := hb3.size; first | omega | (simp at this; omega)))
    have HQ3 := Lib.hid (blk_below (blk_alloc (u := .cells #[.int .i64 a, .int .i64 b, .int .i64 cc, .int .i64 d, .int .i64 e, .int .i64 f, .int .i64 g, .int .i64 h, .int .i64 i] 25) HQ2.out hz2a) hb3 (by simp; omega))
    have HM3 := Lib.hid (blk_below HM2.out hb3 (by simp))
    have HN3 := Lib.hid (heap_alloc_new w3 (.cells #[.int .i64 a, .int .i64 b, .int .i64 cc, .int .i64 d, .int .i64 e, .int .i64 f, .int .i64 g, .int .i64 h, .int .i64 i] 25))
    have HB3 := Lib.hid hB3
    clear hb2 hB2 hb3 hc3 hf3 hB3 q0 q1 q2 q3 q4 q5 q6 q7 HP1 HP2 HQ1 HQ2 HM2
    go_upto_region 6 with fail
    refine gen_worldM (P := fun W' => Code.wp _ _ _ _ W') (Q := fun W' => MPk w w1.heap.size w2.heap.size w3.heap.size (.cells #[.int .i64 ax, .int .i64 ay, .int .i64 bx, .int .i64 bY, .int .i64 cx, .int .i64 cy, .int .i64 dx, .int .i64 dy] 33 (0, 0)) (.cells #[.int .i64 a, .int .i64 b, .int .i64 cc, .int .i64 d, .int .i64 e, .int .i64 f, .int .i64 g, .int .i64 h, .int .i64 i] 25 (0, 0)) W') (by exact ⟨HB3.out.alloc (by have := HB3.out.size; omega) _, blk_alloc HQ3.out hz3a, blk_alloc HM3.out hz3b, HN3.out⟩) ?_
    intro w4 hk4
    have HK4 := Lib.hid hk4
    clear hk4 HQ3 HM3 HN3 HB3 hz2a hz3a hz3b
    obtain ⟨BQ, hBQ⟩ : ∃ x, w1.heap.size = x := ⟨_, rfl⟩
    obtain ⟨BM, hBM⟩ : ∃ x, w2.heap.size = x := ⟨_, rfl⟩
    obtain ⟨BN, hBN⟩ : ∃ x, w3.heap.size = x := ⟨_, rfl⟩
    rw [hBQ, hBM, hBN] at HK4 ⊢
    clear hBQ hBM hBN hs1 hBq HB1
    obtain ⟨q0, q1, q2, q3, q4, q5, q6, q7, -⟩ := blk8 HK4.out.kq
    obtain ⟨m0, m1, m2, m3, m4, m5, m6, m7, m8, -⟩ := blk9 HK4.out.km
    obtain ⟨p0, p1, p2, p3, p4, p5, p6, p7, p8, -⟩ := blk9 HK4.out.kn
    have lq4 := lt_of_block HK4.out.kq
    have lm4 := lt_of_block HK4.out.km
    have ln4 := lt_of_block HK4.out.kn
    have hb4 := HK4.out.bl
    have hs4 := hb4.size
    by_cases hK : K = 0
    · obtain ⟨hmap, PQ, haf⟩ := HP3.out hK
      have HPQ := Lib.hid PQ
      have hk0 : (K == 0) = true := by simpa using hK
      have hk1 : (K != 0) = false := by simpa using hK
      obtain ⟨sa, sb, sc, sd, -⟩ := quadB_true (HQK.out.trans hk0)
      obtain ⟨⟨rA1, rA2⟩, rA3, rA4⟩ := spot_rg sa
      obtain ⟨⟨rB1, rB2⟩, rB3, rB4⟩ := spot_rg sb
      obtain ⟨⟨rC1, rC2⟩, rC3, rC4⟩ := spot_rg sc
      obtain ⟨⟨rD1, rD2⟩, rD3, rD4⟩ := spot_rg sd
      have HAF := Lib.hid (fun w => IsAffine_any a b cc d e f g h i w)
      have HMP := Lib.hid (fun w => IsMap_any a b cc d e f g h i w)
      have HMT := Lib.hid (fun (w' : World) (hb : Below w.heap.size w w') => MapText_any a b cc d e f g h i w' (HT.out.below hb))
      have HST := Lib.hid (fun w => sMapText_any a b cc d e f g h i w)
      rw [hmap, haf, Bool.true_and] at HAF
      rw [hmap] at HMP
      generalize mtS [a, b, cc, d, e, f, g, h, i] = S at HMT HST
      clear hmap PQ haf hK sa sb sc sd HP3 HQK
      go_upto_region 10 with (go_at_call 12; with_reducible refine (HIQ.out _).mono ?_; rintro e5 w5 ⟨rfl, hb5⟩; have HK5 := Lib.hid (HK4.out.below hb5))
      clear hb5 lq4 lm4 ln4 hb4 hs4
      clear q0 q1 q2 q3 q4 q5 q6 q7 m0 m1 m2 m3 m4 m5 m6 m7 m8 p0 p1 p2 p3 p4 p5 p6 p7 p8
      obtain ⟨q0, q1, q2, q3, q4, q5, q6, q7, -⟩ := blk8 HK5.out.kq
      obtain ⟨m0, m1, m2, m3, m4, m5, m6, m7, m8, -⟩ := blk9 HK5.out.km
      obtain ⟨p0, p1, p2, p3, p4, p5, p6, p7, p8, -⟩ := blk9 HK5.out.kn
      have lq5 := lt_of_block HK5.out.kq
      have lm5 := lt_of_block HK5.out.km
      have ln5 := lt_of_block HK5.out.kn
      have hb5 := HK5.out.bl
      have hs5 := hb5.size
      go_wp2_with fail
      go_at_call 13
      with_reducible refine (HPQ.out _).mono ?_
      rintro e6 w6 ⟨rfl, hb6⟩
      have HK6 := Lib.hid (HK5.out.below hb6)
      clear hb6 lq5 lm5 ln5 hb5 hs5 HPQ HIQ HK5
      clear q0 q1 q2 q3 q4 q5 q6 q7 m0 m1 m2 m3 m4 m5 m6 m7 m8 p0 p1 p2 p3 p4 p5 p6 p7 p8
      obtain ⟨q0, q1, q2, q3, q4, q5, q6, q7, -⟩ := blk8 HK6.out.kq
      obtain ⟨m0, m1, m2, m3, m4, m5, m6, m7, m8, -⟩ := blk9 HK6.out.km
      obtain ⟨p0, p1, p2, p3, p4, p5, p6, p7, p8, -⟩ := blk9 HK6.out.kn
      have lq6 := lt_of_block HK6.out.kq
      have lm6 := lt_of_block HK6.out.km
      have ln6 := lt_of_block HK6.out.kn
      have hb6 := HK6.out.bl
      have hs6 := hb6.size
      have HZ6 := Lib.hid (heap_alloc_new w6 (.cells #[.int .i64 ax, .int .i64 ay, .int .i64 bx, .int .i64 bY, .int .i64 cx, .int .i64 cy, .int .i64 dx, .int .i64 dy] 33))
      go_upto_region 11 with fail
      refine gen_worldM (P := fun W' => Code.wp _ _ _ _ W') (Q := fun W' => MPk w BQ BM BN (.cells #[.int .i64 ax, .int .i64 ay, .int .i64 bx, .int .i64 bY, .int .i64 cx, .int .i64 cy, .int .i64 dx, .int .i64 dy] 33 (0, 0)) (.cells #[.int .i64 a, .int .i64 b, .int .i64 cc, .int .i64 d, .int .i64 e, .int .i64 f, .int .i64 g, .int .i64 h, .int .i64 i] 25 (0, 0)) W' ∧ W'.heap[w6.heap.size]? = some (.cells #[.int .i64 ax, .int .i64 ay, .int .i64 bx, .int .i64 bY, .int .i64 cx, .int .i64 cy, .int .i64 dx, .int .i64 dy] 33 (0, 0))) (by exact ⟨HK6.out.below ((Below.refl _ _).alloc (Nat.le_refl _) _), HZ6.out⟩) ?_
      rintro w7 ⟨hk7, hz7⟩
      have HK7 := Lib.hid hk7
      clear hk7 HZ6 HK6 lq6 lm6 ln6 hb6 hs6
      clear q0 q1 q2 q3 q4 q5 q6 q7 m0 m1 m2 m3 m4 m5 m6 m7 m8 p0 p1 p2 p3 p4 p5 p6 p7 p8
      obtain ⟨BZ, hBZ⟩ : ∃ x, w6.heap.size = x := ⟨_, rfl⟩
      rw [hBZ] at hz7 ⊢
      clear hBZ
      obtain ⟨q0, q1, q2, q3, q4, q5, q6, q7, -⟩ := blk8 HK7.out.kq
      obtain ⟨m0, m1, m2, m3, m4, m5, m6, m7, m8, -⟩ := blk9 HK7.out.km
      obtain ⟨p0, p1, p2, p3, p4, p5, p6, p7, p8, -⟩ := blk9 HK7.out.kn
      have lq7 := lt_of_block HK7.out.kq
      have lm7 := lt_of_block HK7.out.km
      have ln7 := lt_of_block HK7.out.kn
      have lz7 := lt_of_block hz7
      obtain ⟨z0, z1, z2, z3, z4, z5, z6, z7, -⟩ := blk8 hz7
      have hb7 := HK7.out.bl
      have hs7 := hb7.size
      have HM7 := Lib.hid (fun (w' : World) (hb : Below w7.heap.size w7 w') => HMT.out w' (hb7.trans (hb.mono hs7)))
      clear hz7 HMT
      clear n0 n1 n2 n3 n4 n5 n6 n7 n8 n9 hkk hk0 hk1
      cases hX : (ax - bx + cx - dx == 0)
      · rw [hX, Bool.false_and] at HAF
        go_upto_region 12 with fail
        refine wp_region_qat [] 25 [] (by kernel_rfl) (by kernel_rfl) ?_
        intro hbc
        simp only [List.take_succ_cons, List.take_zero, List.drop_succ_cons, List.drop_zero]
        repeat (first
          | refine wpQ_pass rfl ?_
          | (refine wpQ_step rfl (fun K hK => ?_)
             go_simp
             first
               | (refine hK _ ?_; clear hK K)
               | (apply Exists.intro
                  refine ⟨fun z => ?_, ?_⟩
                  focus (first | (go_at_call 14; exact HAF.out _) | (go_at_call 15; exact HMP.out _) | (go_at_call 7; exact HM7.out _ (below_blurM (Below.refl _ _) (Nat.le_refl _) _)) | (go_at_call 5; exact HST.out _))
                  refine hK _ ?_
                  clear hK K)))
        refine wpQ_nil ⟨?_, ?_⟩
        · exact rfl
        intro  w8 hb8 hF8
        clear hbc
        obtain ⟨hc8, hf8⟩ := bcell hb8
        clear hF8
        try simp only [Act.put, List.setIfInBounds_toArray, List.set_cons_succ, List.set_cons_zero]
        go_wp2_with fail
        go_ret
        exact ⟨by first | rfl | simp, hb7.trans (hb8.mono hs7)⟩
      · rw [hX, Bool.true_and] at HAF
        cases hY : (ay - bY + cy - dy == 0)
        · rw [hY] at HAF
          go_upto_region 12 with fail
          refine wp_region_qat [] 25 [] (by kernel_rfl) (by kernel_rfl) ?_
          intro hbc
          simp only [List.take_succ_cons, List.take_zero, List.drop_succ_cons, List.drop_zero]
          repeat (first
            | refine wpQ_pass rfl ?_
            | (refine wpQ_step rfl (fun K hK => ?_)
               go_simp
               first
                 | (refine hK _ ?_; clear hK K)
                 | (apply Exists.intro
                    refine ⟨fun z => ?_, ?_⟩
                    focus (first | (go_at_call 14; exact HAF.out _) | (go_at_call 15; exact HMP.out _) | (go_at_call 7; exact HM7.out _ (below_blurM (Below.refl _ _) (Nat.le_refl _) _)) | (go_at_call 5; exact HST.out _))
                    refine hK _ ?_
                    clear hK K)))
          refine wpQ_nil ⟨?_, ?_⟩
          · exact rfl
          intro  w8 hb8 hF8
          clear hbc
          obtain ⟨hc8, hf8⟩ := bcell hb8
          clear hF8
          try simp only [Act.put, List.setIfInBounds_toArray, List.set_cons_succ, List.set_cons_zero]
          go_wp2_with fail
          go_ret
          exact ⟨by first | rfl | simp, hb7.trans (hb8.mono hs7)⟩
        · rw [hY] at HAF
          go_upto_region 12 with fail
          refine wp_region_qat [] 25 [] (by kernel_rfl) (by kernel_rfl) ?_
          intro hbc
          simp only [List.take_succ_cons, List.take_zero, List.drop_succ_cons, List.drop_zero]
          repeat (first
            | refine wpQ_pass rfl ?_
            | (refine wpQ_step rfl (fun K hK => ?_)
               go_simp
               first
                 | (refine hK _ ?_; clear hK K)
                 | (apply Exists.intro
                    refine ⟨fun z => ?_, ?_⟩
                    focus (first | (go_at_call 14; exact HAF.out _) | (go_at_call 15; exact HMP.out _) | (go_at_call 7; exact HM7.out _ (below_blurM (Below.refl _ _) (Nat.le_refl _) _)) | (go_at_call 5; exact HST.out _))
                    refine hK _ ?_
                    clear hK K)))
          refine wpQ_nil ⟨?_, ?_⟩
          · exact rfl
          intro  w8 hb8 hF8
          clear hbc
          obtain ⟨hc8, hf8⟩ := bcell hb8
          clear hF8
          try simp only [Act.put, List.setIfInBounds_toArray, List.set_cons_succ, List.set_cons_zero]
          go_wp2_with fail
          go_ret
          exact ⟨by first | rfl | simp, hb7.trans (hb8.mono hs7)⟩
    · have hk0 : (K == 0) = false := by simpa using hK
      have hk1 : (K != 0) = true := by simpa using hK
      clear hK HP3 HQK
      go_wp2_with (go_at_call 12; with_reducible refine (HIQ.out _).mono ?_; rintro e5 w5 ⟨rfl, hb5⟩; have HK5 := Lib.hid (HK4.out.below hb5))
      go_ret
      exact ⟨rfl, HK5.out.bl⟩

set_option maxRecDepth 100000 in
theorem lifted_FnMaps (os : Os) (started : os.Started) (H : Type) (enc : TypeId × Value → H) :
    ReturnsInHanded {} Tryd.checked os 4 .any (fun w args => (Rows.fnMapsSpec.pre enc Tryd.prog Tryd.f4 [] false w args ∧ laidMetH Tryd.prog laid3 w) ∧ sizedMet enc Tryd.prog Tryd.f4 (OpenSpec.ofChange Rows.fnMapsSpec) false w args) (Rows.fnMapsSpec.post enc Tryd.prog Tryd.f4 false true false false) := by
  refine law_liftedL (C := Tryd.checked) (laid := laid3) (tb := 4) own started (by kernel_rfl) Tryd.func4
    (ChangeSpec.witness_shaped (enc := enc) (C := Tryd.checked) (os := os) (X := fun w _ => laidMetH Tryd.prog laid3 w) false (World.doorLaid Tryd.prog 400 os) #[.slice none 0 0] 8 rfl (World.shaped_of_RefB (by kernel_rfl) (by kernel_rfl)) (by kernel_rfl) (by kernel_rfl) (by kernel_rfl) (door_met os _))
    laidOut (by kernel_rfl) rfl rfl Tryd.underlying4 ?_ ?_
  · intro ds hd
    match ds, hd with
    | [e0], _ => rfl
  · intro W base args ds p hval hA hlt hsz hL
    have hval1 : ∀ (j : Nat) t v, Tryd.f4.params[j]? = some t → args[j]? = some v → Value.okWide Tryd.prog W .any base t v := hval
    have hA1 : DataW.TrodAll enc Tryd.prog W 0 (fun _ => true) true Tryd.f4.params.toList args.toList ds p := hA
    have hsz1 : (DataW.weightsEach Tryd.prog Tryd.f4.params.toList ds).all (· ≤ reachBytes) = true := hsz
    rw [Tryd.params4] at hval1 hA1 hsz1
    clear hval hA hsz
    have htab := tab_of_laid hL
    clear hL
    obtain ⟨v0, d0, rfl, rfl, h0⟩ := trodAll_one hA1
    obtain ⟨A, n, c, bs, rfl, hr, _⟩ := arg_bytes Tryd.underlying28 Tryd.underlying5 (by kernel_rfl) (hval1 0 28 v0 rfl rfl) h0 (fun x hx => hlt x (by simp [hx]))
    exact lawFnMaps A n c bs W hr htab
theorem row_FnMaps : Rows.FnMapsSaid :=
  OpenClaim.holds_of_wide 4 Tryd.f4 rfl rfl rfl rfl rfl rfl rfl ⟨rfl, rfl, rfl, rfl, rfl⟩ rfl rfl rfl rfl rfl (by kernel_rfl) Tryd.func4 (by kernel_rfl)
    (of_decide_eq_true (by kernel_rfl)) (by unfold Func.isWrapper; first | (rw [if_pos (by decide +kernel)]; kernel_rfl) | (rw [if_neg (by decide +kernel)]; exact ⟨rfl, rfl⟩))
    (fun os started H enc _ => lifted_FnMaps os started H enc)

/-- The tied card. -/
theorem holds_FnMapsCard : Rows.FnMapsCardSaid :=
  Claim7.holds_tied_plain_at .later [] [.data, .data, .data] true Rows.fnMapsCard.stood.harness false
    row_FnMaps (fun _ h => by cases h) (by kernel_rfl) (fun _ h => by cases h) fnMaps_row_tie rfl ⟨rfl, rfl⟩ (by kernel_rfl) rfl
    (fun f fn hf hfn => by
      obtain rfl : f = 4 := Option.some.inj ((show Tryd.prog.funcNamed Rows.fnMapsRow.func = some 4 by kernel_rfl).symm.trans hf) |>.symm
      obtain rfl : fn = Tryd.f4 := (Option.some.inj (Tryd.func4.symm.trans hfn)).symm
      exact ⟨by kernel_rfl, fun j t ht => by
        rw [Tryd.params4] at ht
        have hm : t ∈ [28] := by simpa using Array.mem_of_getElem? ht
        have hall : ([28].all fun u => !Tryd.prog.wantsStandIn u) = true := by kernel_rfl
        exact (show Tryd.prog.wantsStandIn t = false by simpa using List.all_eq_true.1 hall t hm)⟩)
    (by kernel_rfl)

end Go.Proofs.YtnhhbpdjapccpaaDoor
