/-
  Contracts of chapter 26: SampleMap. Printed by gen/c26i.py.
-/
import Derived.Test.YtflpllmbpfdnjaaC26H
namespace Go.Proofs.Ytflpllmbpfdnjaa
set_option linter.unusedSimpArgs false
open Go.RowKit

/-- A number if there is no fault. -/
def gI (k x : Int) : Int := if k = 0 then x else 0
theorem gI_0 (x : Int) : gI 0 x = x := rfl
theorem gI_1 (x : Int) : gI 1 x = 0 := rfl
def SampleMap_K (pr pc : Int) (xs : List Int) (m0 m1 m2 m3 m4 m5 m6 m7 m8 : Int) (R C lim mar : Int) : Int := if smpB pr pc xs m0 m1 m2 m3 m4 m5 m6 m7 m8 R C lim mar then 0 else 1
def SampleMap_L (pr pc : Int) (xs : List Int) (m0 m1 m2 m3 m4 m5 m6 m7 m8 : Int) (R C lim mar : Int) : List Int := if smpB pr pc xs m0 m1 m2 m3 m4 m5 m6 m7 m8 R C lim mar then grdL R.toNat C.toNat (fun i j => samV pr.toNat pc.toNat xs m0 m1 m2 m3 m4 m5 m6 m7 m8 R.toNat C.toNat lim mar i j) else []
theorem SampleMap_le (pr pc : Int) (xs : List Int) (m0 m1 m2 m3 m4 m5 m6 m7 m8 : Int) (R C lim mar : Int) : (SampleMap_L pr pc xs m0 m1 m2 m3 m4 m5 m6 m7 m8 R C lim mar).length ≤ 3500 := by
  unfold SampleMap_L
  split
  · rename_i h
    obtain ⟨R', C', rfl, rfl, _, _, _, _, rc, _⟩ := sampling_nat (smp_true h).2.2
    rw [grdL_len]; exact rc
  · simp
set_option maxRecDepth 20000 in
set_option maxHeartbeats 4000000 in
theorem SampleMap_any (pr pc : Int) (A : Option Addr) (n cp : Nat) (xs : List Int) (m0 m1 m2 m3 m4 m5 m6 m7 m8 : Int) (R C lim mar : Int) (w : World) (B : Nat) (hr : RI w B A n xs) (hB : B ≤ w.heap.size) (hn : n ≤ 1000000000000000) :
    Calls Try.prog 18 #[.agg #[.int .i64 pr, .int .i64 pc, .slice A n cp], .agg #[.int .i64 m0, .int .i64 m1, .int .i64 m2, .int .i64 m3, .int .i64 m4, .int .i64 m5, .int .i64 m6, .int .i64 m7, .int .i64 m8], .agg #[.int .i64 R, .int .i64 C, .int .i64 lim, .int .i64 mar]] w fun e w' => ∃ v, e = .returned (.tuple #[.agg #[.int .i64 (gI (SampleMap_K pr pc xs m0 m1 m2 m3 m4 m5 m6 m7 m8 R C lim mar) R), .int .i64 (gI (SampleMap_K pr pc xs m0 m1 m2 m3 m4 m5 m6 m7 m8 R C lim mar) C), v], .int .i64 (SampleMap_K pr pc xs m0 m1 m2 m3 m4 m5 m6 m7 m8 R C lim mar)]) ∧ Own w' w.heap.size v (SampleMap_L pr pc xs m0 m1 m2 m3 m4 m5 m6 m7 m8 R C lim mar) ∧ Below w.heap.size w w' := by
  unfold SampleMap_K SampleMap_L
  cases h : smpB pr pc xs m0 m1 m2 m3 m4 m5 m6 m7 m8 R C lim mar
  · rw [if_neg (by simp), if_neg (by simp), gI_1, gI_1]
    have HS := Lib.hid (fun (w' : World) (hb : Below w.heap.size w w') => samplerOf_no pr pc A n cp xs m0 m1 m2 m3 m4 m5 m6 m7 m8 R C lim mar w' w.heap.size ((hr.more hB).below hb) hb.size hn h)
    clear hr h
    have HZ0 : Hid (((((w.alloc (.cells #[.int .i64 pr, .int .i64 pc, .slice A n cp] 32)).alloc (.cells #[.int .i64 m0, .int .i64 m1, .int .i64 m2, .int .i64 m3, .int .i64 m4, .int .i64 m5, .int .i64 m6, .int .i64 m7, .int .i64 m8] 34)).alloc (.cells #[.int .i64 R, .int .i64 C, .int .i64 lim, .int .i64 mar] 36)).alloc (.cells #[.int .i64 0, .int .i64 0, .slice none 0 0] 41)).heap[w.heap.size + 1 + 1 + 1]? = some (.cells #[.int .i64 0, .int .i64 0, .slice none 0 0] 41 (0, 0))) := Lib.hid (heap_alloc_at (by simp))
    go_enter Try.func18, Try.ntmps18
    go_wp2_with fail
    (go_at_call 47; go_call (HS.out _ (by (repeat (first | (with_reducible assumption) | (with_reducible exact Below.refl _ _) | (with_reducible refine below_drewN' ?_ _) | (with_reducible refine Below.drew ?_) | ((with_reducible refine Below.alloc ?_ ?_ _); rotate_left; focus (first | (simp; done) | (simp; omega) | omega)) | ((with_reducible refine Below.setCell ?_ ?_ _); rotate_left; focus (first | (simp; done) | (simp; omega) | omega)))))) as e1 w1 ⟨rfl, hb1⟩; obtain ⟨hc1, hf1⟩ := bcell hb1; have hB1 : Below w.heap.size w w1 := (below_then (by first | (go_grown; done) | (repeat (first | (with_reducible assumption) | (with_reducible exact Below.refl _ _) | (with_reducible refine below_drewN' ?_ _) | (with_reducible refine Below.drew ?_) | ((with_reducible refine Below.alloc ?_ ?_ _); rotate_left; focus (first | (simp; done) | (simp; omega) | omega)) | ((with_reducible refine Below.setCell ?_ ?_ _); rotate_left; focus (first | (simp; done) | (simp; omega) | omega))))) (by first | omega | (simp; done) | (simp; omega)) hb1); have hz1a : w.heap.size < w1.heap.size := (by have := hb1.size; first | omega | (simp at this; omega)); have hz1b : w.heap.size + 1 < w1.heap.size := (by have := hb1.size; first | omega | (simp at this; omega)); have hz1c : w.heap.size + 1 + 1 < w1.heap.size := (by have := hb1.size; first | omega | (simp at this; omega)); have hz1d : w.heap.size + 1 + 1 + 1 < w1.heap.size := (by have := hb1.size; first | omega | (simp at this; omega)))
    have HZ1 := Lib.hid (blk_below HZ0.out hb1 (by simp))
    clear hc1 hf1 hb1
    obtain ⟨z0, z1, z2, zf⟩ := blk3 HZ1.out
    obtain ⟨s0, s1, s2, -⟩ := blk3 (blk_alloc (u := .cells #[.int .i64 0, .int .i64 0, .slice none 0 0, .int .i64 0, .int .i64 0, .int .i64 0, .int .i64 0, .int .i64 0, .int .i64 0, .int .i64 0, .int .i64 0, .int .i64 0, .int .i64 0, .int .i64 0, .int .i64 0, .int .i64 0] 80) (blk3_2 (u := .slice none 0 0) (blk3_1 (u := .int .i64 0) (blk3_0 (u := .int .i64 0) HZ1.out))) (by simp; omega))
    go_wp2_with fail
    (try simp only [Exit.inBlock, Exit.then]); refine bodyPost_ret (by simp [results, Try.results18, go_sem, s0, s1, s2]; try rfl) rfl ?_
    exact ⟨_, rfl, Own.nil, by (repeat (first | (with_reducible assumption) | (with_reducible exact Below.refl _ _) | (with_reducible refine below_drewN' ?_ _) | (with_reducible refine Below.drew ?_) | ((with_reducible refine Below.alloc ?_ ?_ _); rotate_left; focus (first | (simp; done) | (simp; omega) | omega)) | ((with_reducible refine Below.setCell ?_ ?_ _); rotate_left; focus (first | (simp; done) | (simp; omega) | omega))))⟩
  · rw [if_pos rfl, if_pos rfl, gI_0, gI_0]
    obtain ⟨g1, g2, g3⟩ := smp_true h
    obtain ⟨R', C', rfl, rfl, r1, r2, c1, c2, rc, lb, mb⟩ := sampling_nat g3
    have hx := rasB_true g1
    have hrs := g1
    simp only [rasB, Bool.and_eq_true, decide_eq_true_eq] at hrs
    obtain ⟨p1, p2, p3⟩ := rszB_true hrs.1.1
    have hlen := hrs.1.2
    obtain ⟨PR, rfl⟩ := Int.eq_ofNat_of_zero_le (show 0 ≤ pr by omega)
    obtain ⟨PC, rfl⟩ := Int.eq_ofNat_of_zero_le (show 0 ≤ pc by omega)
    rw [← Int.natCast_mul] at p3 hlen
    have hn1 : n = PR * PC := by rw [hr.len] at hlen; omega
    have hxs : ∀ k, k < n → 0 ≤ nth xs k ∧ nth xs k ≤ 255 := fun k hk => hx.2.2 k (by rw [hr.len]; exact hk)
    have HS := Lib.hid (fun (w' : World) (hb : Below w.heap.size w w') => samplerOf_ok (PR : Int) PC A n cp xs m0 m1 m2 m3 m4 m5 m6 m7 m8 R' C' lim mar w' w.heap.size ((hr.more hB).below hb) hb.size hn h)
    have HG := Lib.hid (fun (w' : World) (hb : Below w.heap.size w w') => grid_any (PR : Int) PC A n cp m0 m1 m2 m3 m4 m5 m6 m7 m8 R' C' lim mar 49 #[.agg #[.int .i64 PR, .int .i64 PC, .slice A n cp, .int .i64 m0, .int .i64 m1, .int .i64 m2, .int .i64 m3, .int .i64 m4, .int .i64 m5, .int .i64 m6, .int .i64 m7, .int .i64 m8, .int .i64 R', .int .i64 C', .int .i64 lim, .int .i64 mar]] #[] (fun i j => samV PR PC xs m0 m1 m2 m3 m4 m5 m6 m7 m8 R' C' lim mar i j) w' (fun args w => by kernel_rfl)
      (fun i j hi hj w'' hb'' => by
        have := middle_any PR PC A n cp xs m0 m1 m2 m3 m4 m5 m6 m7 m8 R' C' lim mar i j w'' w.heap.size ((hr.more hB).below (hb.trans (hb''.mono hb.size))) (Nat.le_trans hb.size hb''.size) hn1 (by omega) (by omega) (by omega) hxs g2 lb mb r2 c2 rc hi hj
        rw [show (#[.agg #[.int .i64 PR, .int .i64 PC, .slice A n cp, .int .i64 m0, .int .i64 m1, .int .i64 m2, .int .i64 m3, .int .i64 m4, .int .i64 m5, .int .i64 m6, .int .i64 m7, .int .i64 m8, .int .i64 R', .int .i64 C', .int .i64 lim, .int .i64 mar]] ++ (#[.int .i64 (i : Int), .int .i64 (j : Int)] ++ #[]) : Array Value) = #[.agg #[.int .i64 PR, .int .i64 PC, .slice A n cp, .int .i64 m0, .int .i64 m1, .int .i64 m2, .int .i64 m3, .int .i64 m4, .int .i64 m5, .int .i64 m6, .int .i64 m7, .int .i64 m8, .int .i64 R', .int .i64 C', .int .i64 lim, .int .i64 mar], .int .i64 (i : Int), .int .i64 (j : Int)] from rfl]
        exact this) r2 c2 rc)
    rw [show (PR : Int).toNat = PR from rfl, show (PC : Int).toNat = PC from rfl, show (R' : Int).toNat = R' from rfl, show (C' : Int).toNat = C' from rfl] at *
    obtain ⟨GL, hGL⟩ : ∃ GL, grdL R' C' (fun i j => samV PR PC xs m0 m1 m2 m3 m4 m5 m6 m7 m8 R' C' lim mar i j) = GL := ⟨_, rfl⟩
    rw [hGL] at HG ⊢
    clear h g1 g2 g3 hr hx hrs p1 p2 p3 hlen hn1 hxs lb mb rc hGL
    have HZ0 : Hid (((((w.alloc (.cells #[.int .i64 PR, .int .i64 PC, .slice A n cp] 32)).alloc (.cells #[.int .i64 m0, .int .i64 m1, .int .i64 m2, .int .i64 m3, .int .i64 m4, .int .i64 m5, .int .i64 m6, .int .i64 m7, .int .i64 m8] 34)).alloc (.cells #[.int .i64 R', .int .i64 C', .int .i64 lim, .int .i64 mar] 36)).alloc (.cells #[.int .i64 0, .int .i64 0, .slice none 0 0] 41)).heap[w.heap.size + 1 + 1 + 1]? = some (.cells #[.int .i64 0, .int .i64 0, .slice none 0 0] 41 (0, 0))) := Lib.hid (heap_alloc_at (by simp))
    go_enter Try.func18, Try.ntmps18
    go_wp2_with fail
    (go_at_call 47; go_call (HS.out _ (by (repeat (first | (with_reducible assumption) | (with_reducible exact Below.refl _ _) | (with_reducible refine below_drewN' ?_ _) | (with_reducible refine Below.drew ?_) | ((with_reducible refine Below.alloc ?_ ?_ _); rotate_left; focus (first | (simp; done) | (simp; omega) | omega)) | ((with_reducible refine Below.setCell ?_ ?_ _); rotate_left; focus (first | (simp; done) | (simp; omega) | omega)))))) as e1 w1 ⟨rfl, hb1⟩; obtain ⟨hc1, hf1⟩ := bcell hb1; have hB1 : Below w.heap.size w w1 := (below_then (by first | (go_grown; done) | (repeat (first | (with_reducible assumption) | (with_reducible exact Below.refl _ _) | (with_reducible refine below_drewN' ?_ _) | (with_reducible refine Below.drew ?_) | ((with_reducible refine Below.alloc ?_ ?_ _); rotate_left; focus (first | (simp; done) | (simp; omega) | omega)) | ((with_reducible refine Below.setCell ?_ ?_ _); rotate_left; focus (first | (simp; done) | (simp; omega) | omega))))) (by first | omega | (simp; done) | (simp; omega)) hb1); have hz1a : w.heap.size < w1.heap.size := (by have := hb1.size; first | omega | (simp at this; omega)); have hz1b : w.heap.size + 1 < w1.heap.size := (by have := hb1.size; first | omega | (simp at this; omega)); have hz1c : w.heap.size + 1 + 1 < w1.heap.size := (by have := hb1.size; first | omega | (simp at this; omega)); have hz1d : w.heap.size + 1 + 1 + 1 < w1.heap.size := (by have := hb1.size; first | omega | (simp at this; omega)))
    have HZ1 := Lib.hid (blk_below HZ0.out hb1 (by simp))
    clear hc1 hf1 hb1
    go_wp2_with fail
    (go_at_call 52; go_call (HG.out _ (by (repeat (first | (with_reducible assumption) | (with_reducible exact Below.refl _ _) | (with_reducible refine below_drewN' ?_ _) | (with_reducible refine Below.drew ?_) | ((with_reducible refine Below.alloc ?_ ?_ _); rotate_left; focus (first | (simp; done) | (simp; omega) | omega)) | ((with_reducible refine Below.setCell ?_ ?_ _); rotate_left; focus (first | (simp; done) | (simp; omega) | omega)))))) as e2 w2 ⟨v2, rfl, ho2, hb2⟩; obtain ⟨hc2, hf2⟩ := bcell hb2; have hB2 : Below w.heap.size w w2 := (below_then (by first | (go_grown; done) | (repeat (first | (with_reducible assumption) | (with_reducible exact Below.refl _ _) | (with_reducible refine below_drewN' ?_ _) | (with_reducible refine Below.drew ?_) | ((with_reducible refine Below.alloc ?_ ?_ _); rotate_left; focus (first | (simp; done) | (simp; omega) | omega)) | ((with_reducible refine Below.setCell ?_ ?_ _); rotate_left; focus (first | (simp; done) | (simp; omega) | omega))))) (by first | omega | (simp; done) | (simp; omega)) hb2); have hz2a : w.heap.size < w2.heap.size := (by have := hb2.size; first | omega | (simp at this; omega)); have hz2b : w.heap.size + 1 < w2.heap.size := (by have := hb2.size; first | omega | (simp at this; omega)); have hz2c : w.heap.size + 1 + 1 < w2.heap.size := (by have := hb2.size; first | omega | (simp at this; omega)); have hz2d : w.heap.size + 1 + 1 + 1 < w2.heap.size := (by have := hb2.size; first | omega | (simp at this; omega)))
    have HZ2 := Lib.hid (blk_below (blk_alloc (u := .cells #[.int .i64 PR, .int .i64 PC, .slice A n cp, .int .i64 m0, .int .i64 m1, .int .i64 m2, .int .i64 m3, .int .i64 m4, .int .i64 m5, .int .i64 m6, .int .i64 m7, .int .i64 m8, .int .i64 R', .int .i64 C', .int .i64 lim, .int .i64 mar] 80) HZ1.out hz1d) hb2 (by simp; omega))
    have hzb : w.heap.size + 1 + 1 + 1 < w1.heap.size + 1 := by omega
    simp only [World.size_alloc] at ho2
    obtain ⟨A2, c2', rfl, hr2⟩ := ho2.shape
    have HO2 := Lib.hid ho2
    clear hc2 hf2 hb2 ho2 hr2
    obtain ⟨z0, z1, z2, zf⟩ := blk3 HZ2.out
    obtain ⟨s0, s1, s2⟩ := res3 HZ2.out (.int .i64 R') (.int .i64 C') (.slice A2 GL.length c2')
    go_wp2_with fail
    (try simp only [Exit.inBlock, Exit.then]); refine bodyPost_ret (by simp [results, Try.results18, go_sem, s0, s1, s2]; try rfl) rfl ?_
    exact ⟨_, rfl, ((((HO2.out.setLt hzb _).setLt hzb _).setLt hzb _)).more (by omega), by (repeat (first | (with_reducible assumption) | (with_reducible exact Below.refl _ _) | (with_reducible refine below_drewN' ?_ _) | (with_reducible refine Below.drew ?_) | ((with_reducible refine Below.alloc ?_ ?_ _); rotate_left; focus (first | (simp; done) | (simp; omega) | omega)) | ((with_reducible refine Below.setCell ?_ ?_ _); rotate_left; focus (first | (simp; done) | (simp; omega) | omega))))⟩
set_option maxRecDepth 20000 in
set_option maxHeartbeats 4000000 in
theorem sSampleMap_any (pr pc : Int) (A : Option Addr) (n cp : Nat) (xs : List Int) (m0 m1 m2 m3 m4 m5 m6 m7 m8 : Int) (R C lim mar : Int) (w : World) (B : Nat) (hr : RI w B A n xs) (hB : B ≤ w.heap.size) (hn : n ≤ 1000000000000000) :
    Calls Try.prog 17 #[.agg #[.int .i64 pr, .int .i64 pc, .slice A n cp], .agg #[.int .i64 m0, .int .i64 m1, .int .i64 m2, .int .i64 m3, .int .i64 m4, .int .i64 m5, .int .i64 m6, .int .i64 m7, .int .i64 m8], .agg #[.int .i64 R, .int .i64 C, .int .i64 lim, .int .i64 mar]] w fun e w' => ∃ v, e = .returned (.tuple #[.agg #[.int .i64 (gI (SampleMap_K pr pc xs m0 m1 m2 m3 m4 m5 m6 m7 m8 R C lim mar) R), .int .i64 (gI (SampleMap_K pr pc xs m0 m1 m2 m3 m4 m5 m6 m7 m8 R C lim mar) C), v], .int .i64 (SampleMap_K pr pc xs m0 m1 m2 m3 m4 m5 m6 m7 m8 R C lim mar)]) ∧ Own w' w.heap.size v (SampleMap_L pr pc xs m0 m1 m2 m3 m4 m5 m6 m7 m8 R C lim mar) ∧ Below w.heap.size w w' := by
  unfold SampleMap_K SampleMap_L
  cases h : smpB pr pc xs m0 m1 m2 m3 m4 m5 m6 m7 m8 R C lim mar
  · rw [if_neg (by simp), if_neg (by simp), gI_1, gI_1]
    have HS := Lib.hid (fun (w' : World) (hb : Below w.heap.size w w') => l26Code_no pr pc A n cp xs m0 m1 m2 m3 m4 m5 m6 m7 m8 R C lim mar w' w.heap.size ((hr.more hB).below hb) hb.size hn h)
    clear hr h
    have HZ0 : Hid (((((w.alloc (.cells #[.int .i64 pr, .int .i64 pc, .slice A n cp] 32)).alloc (.cells #[.int .i64 m0, .int .i64 m1, .int .i64 m2, .int .i64 m3, .int .i64 m4, .int .i64 m5, .int .i64 m6, .int .i64 m7, .int .i64 m8] 34)).alloc (.cells #[.int .i64 R, .int .i64 C, .int .i64 lim, .int .i64 mar] 36)).alloc (.cells #[.int .i64 0, .int .i64 0, .slice none 0 0] 41)).heap[w.heap.size + 1 + 1 + 1]? = some (.cells #[.int .i64 0, .int .i64 0, .slice none 0 0] 41 (0, 0))) := Lib.hid (heap_alloc_at (by simp))
    go_enter Try.func17, Try.ntmps17
    go_wp2_with fail
    (go_at_call 43; go_call (HS.out _ (by (repeat (first | (with_reducible assumption) | (with_reducible exact Below.refl _ _) | (with_reducible refine below_drewN' ?_ _) | (with_reducible refine Below.drew ?_) | ((with_reducible refine Below.alloc ?_ ?_ _); rotate_left; focus (first | (simp; done) | (simp; omega) | omega)) | ((with_reducible refine Below.setCell ?_ ?_ _); rotate_left; focus (first | (simp; done) | (simp; omega) | omega)))))) as e1 w1 ⟨rfl, hb1⟩; obtain ⟨hc1, hf1⟩ := bcell hb1; have hB1 : Below w.heap.size w w1 := (below_then (by first | (go_grown; done) | (repeat (first | (with_reducible assumption) | (with_reducible exact Below.refl _ _) | (with_reducible refine below_drewN' ?_ _) | (with_reducible refine Below.drew ?_) | ((with_reducible refine Below.alloc ?_ ?_ _); rotate_left; focus (first | (simp; done) | (simp; omega) | omega)) | ((with_reducible refine Below.setCell ?_ ?_ _); rotate_left; focus (first | (simp; done) | (simp; omega) | omega))))) (by first | omega | (simp; done) | (simp; omega)) hb1); have hz1a : w.heap.size < w1.heap.size := (by have := hb1.size; first | omega | (simp at this; omega)); have hz1b : w.heap.size + 1 < w1.heap.size := (by have := hb1.size; first | omega | (simp at this; omega)); have hz1c : w.heap.size + 1 + 1 < w1.heap.size := (by have := hb1.size; first | omega | (simp at this; omega)); have hz1d : w.heap.size + 1 + 1 + 1 < w1.heap.size := (by have := hb1.size; first | omega | (simp at this; omega)))
    have HZ1 := Lib.hid (blk_below HZ0.out hb1 (by simp))
    clear hc1 hf1 hb1
    obtain ⟨z0, z1, z2, zf⟩ := blk3 HZ1.out
    obtain ⟨s0, s1, s2⟩ := res3 HZ1.out (.int .i64 0) (.int .i64 0) (.slice none 0 0)
    go_wp2_with fail
    (try simp only [Exit.inBlock, Exit.then]); refine bodyPost_ret (by simp [results, Try.results17, go_sem, s0, s1, s2]; try rfl) rfl ?_
    exact ⟨_, rfl, Own.nil, by (repeat (first | (with_reducible assumption) | (with_reducible exact Below.refl _ _) | (with_reducible refine below_drewN' ?_ _) | (with_reducible refine Below.drew ?_) | ((with_reducible refine Below.alloc ?_ ?_ _); rotate_left; focus (first | (simp; done) | (simp; omega) | omega)) | ((with_reducible refine Below.setCell ?_ ?_ _); rotate_left; focus (first | (simp; done) | (simp; omega) | omega))))⟩
  · rw [if_pos rfl, if_pos rfl, gI_0, gI_0]
    obtain ⟨g1, g2, g3⟩ := smp_true h
    obtain ⟨R', C', rfl, rfl, r1, r2, c1, c2, rc, lb, mb⟩ := sampling_nat g3
    have hx := rasB_true g1
    have hrs := g1
    simp only [rasB, Bool.and_eq_true, decide_eq_true_eq] at hrs
    obtain ⟨p1, p2, p3⟩ := rszB_true hrs.1.1
    have hlen := hrs.1.2
    obtain ⟨PR, rfl⟩ := Int.eq_ofNat_of_zero_le (show 0 ≤ pr by omega)
    obtain ⟨PC, rfl⟩ := Int.eq_ofNat_of_zero_le (show 0 ≤ pc by omega)
    rw [← Int.natCast_mul] at p3 hlen
    have hn1 : n = PR * PC := by rw [hr.len] at hlen; omega
    have hxs : ∀ k, k < n → 0 ≤ nth xs k ∧ nth xs k ≤ 255 := fun k hk => hx.2.2 k (by rw [hr.len]; exact hk)
    have HS := Lib.hid (fun (w' : World) (hb : Below w.heap.size w w') => l26Code_ok (PR : Int) PC A n cp xs m0 m1 m2 m3 m4 m5 m6 m7 m8 R' C' lim mar w' w.heap.size ((hr.more hB).below hb) hb.size hn h)
    have HG := Lib.hid (fun (w' : World) (hb : Below w.heap.size w w') => l26Map_any PR PC A n cp xs m0 m1 m2 m3 m4 m5 m6 m7 m8 R' C' lim mar w' w.heap.size ((hr.more hB).below hb) hb.size hn1 (by omega) (by omega) (by omega) hxs g2 lb mb r2 c2 rc)
    rw [show (PR : Int).toNat = PR from rfl, show (PC : Int).toNat = PC from rfl, show (R' : Int).toNat = R' from rfl, show (C' : Int).toNat = C' from rfl] at *
    obtain ⟨GL, hGL⟩ : ∃ GL, grdL R' C' (fun i j => samV PR PC xs m0 m1 m2 m3 m4 m5 m6 m7 m8 R' C' lim mar i j) = GL := ⟨_, rfl⟩
    rw [hGL] at HG ⊢
    clear h g1 g2 g3 hr hx hrs p1 p2 p3 hlen hn1 hxs lb mb rc hGL
    have HZ0 : Hid (((((w.alloc (.cells #[.int .i64 PR, .int .i64 PC, .slice A n cp] 32)).alloc (.cells #[.int .i64 m0, .int .i64 m1, .int .i64 m2, .int .i64 m3, .int .i64 m4, .int .i64 m5, .int .i64 m6, .int .i64 m7, .int .i64 m8] 34)).alloc (.cells #[.int .i64 R', .int .i64 C', .int .i64 lim, .int .i64 mar] 36)).alloc (.cells #[.int .i64 0, .int .i64 0, .slice none 0 0] 41)).heap[w.heap.size + 1 + 1 + 1]? = some (.cells #[.int .i64 0, .int .i64 0, .slice none 0 0] 41 (0, 0))) := Lib.hid (heap_alloc_at (by simp))
    go_enter Try.func17, Try.ntmps17
    go_wp2_with fail
    (go_at_call 43; go_call (HS.out _ (by (repeat (first | (with_reducible assumption) | (with_reducible exact Below.refl _ _) | (with_reducible refine below_drewN' ?_ _) | (with_reducible refine Below.drew ?_) | ((with_reducible refine Below.alloc ?_ ?_ _); rotate_left; focus (first | (simp; done) | (simp; omega) | omega)) | ((with_reducible refine Below.setCell ?_ ?_ _); rotate_left; focus (first | (simp; done) | (simp; omega) | omega)))))) as e1 w1 ⟨rfl, hb1⟩; obtain ⟨hc1, hf1⟩ := bcell hb1; have hB1 : Below w.heap.size w w1 := (below_then (by first | (go_grown; done) | (repeat (first | (with_reducible assumption) | (with_reducible exact Below.refl _ _) | (with_reducible refine below_drewN' ?_ _) | (with_reducible refine Below.drew ?_) | ((with_reducible refine Below.alloc ?_ ?_ _); rotate_left; focus (first | (simp; done) | (simp; omega) | omega)) | ((with_reducible refine Below.setCell ?_ ?_ _); rotate_left; focus (first | (simp; done) | (simp; omega) | omega))))) (by first | omega | (simp; done) | (simp; omega)) hb1); have hz1a : w.heap.size < w1.heap.size := (by have := hb1.size; first | omega | (simp at this; omega)); have hz1b : w.heap.size + 1 < w1.heap.size := (by have := hb1.size; first | omega | (simp at this; omega)); have hz1c : w.heap.size + 1 + 1 < w1.heap.size := (by have := hb1.size; first | omega | (simp at this; omega)); have hz1d : w.heap.size + 1 + 1 + 1 < w1.heap.size := (by have := hb1.size; first | omega | (simp at this; omega)))
    have HZ1 := Lib.hid (blk_below HZ0.out hb1 (by simp))
    obtain ⟨k0, k1, k2, -⟩ := blk3 (blk_below (blk_alloc (blk_alloc (blk_alloc (heap_alloc_new w (.cells #[.int .i64 PR, .int .i64 PC, .slice A n cp] 32)) (by simp)) (by simp; try omega)) (by simp; try omega)) hb1 (by simp; try omega))
    obtain ⟨l0, l1, l2, l3, l4, l5, l6, l7, l8, -⟩ := blk9 (blk_below (blk_alloc (blk_alloc (heap_alloc_at (w := w.alloc (.cells #[.int .i64 PR, .int .i64 PC, .slice A n cp] 32)) (b := w.heap.size + 1) (o := .cells #[.int .i64 m0, .int .i64 m1, .int .i64 m2, .int .i64 m3, .int .i64 m4, .int .i64 m5, .int .i64 m6, .int .i64 m7, .int .i64 m8] 34) (by simp)) (by simp; try omega)) (by simp; try omega)) hb1 (by simp; try omega))
    obtain ⟨m'0, m'1, m'2, m'3, -⟩ := blk4 (blk_below (blk_alloc (heap_alloc_at (w := (w.alloc (.cells #[.int .i64 PR, .int .i64 PC, .slice A n cp] 32)).alloc (.cells #[.int .i64 m0, .int .i64 m1, .int .i64 m2, .int .i64 m3, .int .i64 m4, .int .i64 m5, .int .i64 m6, .int .i64 m7, .int .i64 m8] 34)) (b := w.heap.size + 1 + 1) (o := .cells #[.int .i64 R', .int .i64 C', .int .i64 lim, .int .i64 mar] 36) (by simp)) (by simp; try omega)) hb1 (by simp; try omega))
    clear hc1 hf1 hb1
    go_wp2_with fail
    (go_at_call 51; go_call (HG.out _ (by (repeat (first | (with_reducible assumption) | (with_reducible exact Below.refl _ _) | (with_reducible refine below_drewN' ?_ _) | (with_reducible refine Below.drew ?_) | ((with_reducible refine Below.alloc ?_ ?_ _); rotate_left; focus (first | (simp; done) | (simp; omega) | omega)) | ((with_reducible refine Below.setCell ?_ ?_ _); rotate_left; focus (first | (simp; done) | (simp; omega) | omega)))))) as e2 w2 ⟨v2, rfl, ho2, hb2⟩; obtain ⟨hc2, hf2⟩ := bcell hb2; have hB2 : Below w.heap.size w w2 := (below_then (by first | (go_grown; done) | (repeat (first | (with_reducible assumption) | (with_reducible exact Below.refl _ _) | (with_reducible refine below_drewN' ?_ _) | (with_reducible refine Below.drew ?_) | ((with_reducible refine Below.alloc ?_ ?_ _); rotate_left; focus (first | (simp; done) | (simp; omega) | omega)) | ((with_reducible refine Below.setCell ?_ ?_ _); rotate_left; focus (first | (simp; done) | (simp; omega) | omega))))) (by first | omega | (simp; done) | (simp; omega)) hb2); have hz2a : w.heap.size < w2.heap.size := (by have := hb2.size; first | omega | (simp at this; omega)); have hz2b : w.heap.size + 1 < w2.heap.size := (by have := hb2.size; first | omega | (simp at this; omega)); have hz2c : w.heap.size + 1 + 1 < w2.heap.size := (by have := hb2.size; first | omega | (simp at this; omega)); have hz2d : w.heap.size + 1 + 1 + 1 < w2.heap.size := (by have := hb2.size; first | omega | (simp at this; omega)))
    have HZ2 := Lib.hid (blk_below HZ1.out hb2 (by omega))
    obtain ⟨A2, c2', rfl, hr2⟩ := ho2.shape
    have HO2 := Lib.hid ho2
    clear hc2 hf2 hb2 ho2 hr2 k0 k1 k2 l0 l1 l2 l3 l4 l5 l6 l7 l8 m'0 m'1 m'2 m'3
    obtain ⟨z0, z1, z2, zf⟩ := blk3 HZ2.out
    obtain ⟨s0, s1, s2⟩ := res3 HZ2.out (.int .i64 R') (.int .i64 C') (.slice A2 GL.length c2')
    go_wp2_with fail
    (try simp only [Exit.inBlock, Exit.then]); refine bodyPost_ret (by simp [results, Try.results17, go_sem, s0, s1, s2]; try rfl) rfl ?_
    exact ⟨_, rfl, ((((HO2.out.setLt hz1d _).setLt hz1d _).setLt hz1d _)).more (by omega), by (repeat (first | (with_reducible assumption) | (with_reducible exact Below.refl _ _) | (with_reducible refine below_drewN' ?_ _) | (with_reducible refine Below.drew ?_) | ((with_reducible refine Below.alloc ?_ ?_ _); rotate_left; focus (first | (simp; done) | (simp; omega) | omega)) | ((with_reducible refine Below.setCell ?_ ?_ _); rotate_left; focus (first | (simp; done) | (simp; omega) | omega))))⟩
end Go.Proofs.Ytflpllmbpfdnjaa
