/-
  Contracts of chapter 26: the grid of the votes of a way; SampleStack, both sides. Printed by gen/c26l.py.
-/
import Derived.Test.YtflpllmbpfdnjaaC26I
import Derived.Test.YtflpllmbpfdnjaaC26N
import Derived.Deep.RegionHeld3
namespace Go.Proofs.Ytflpllmbpfdnjaa
set_option linter.unusedSimpArgs false
open Go.RowKit

theorem gI_2 (x : Int) : gI 2 x = 0 := rfl
def SampleStack_K (pr pc : Int) (xs : List Int) (m0 m1 m2 m3 m4 m5 m6 m7 m8 : Int) (R C lim mar ln : Int) : Int := if smpB pr pc xs m0 m1 m2 m3 m4 m5 m6 m7 m8 R C lim mar then (if inR ln 1 7 then 0 else 2) else 1
def SampleStack_L (pr pc : Int) (xs : List Int) (m0 m1 m2 m3 m4 m5 m6 m7 m8 : Int) (R C lim mar ln : Int) : List Int := if smpB pr pc xs m0 m1 m2 m3 m4 m5 m6 m7 m8 R C lim mar then (if inR ln 1 7 then grdL R.toNat C.toNat (fun i j => voteV (stkL (tkF pr.toNat pc.toNat xs m0 m1 m2 m3 m4 m5 m6 m7 m8 lim mar) R.toNat C.toNat ln.toNat i j)) else []) else []
theorem SampleStack_le (pr pc : Int) (xs : List Int) (m0 m1 m2 m3 m4 m5 m6 m7 m8 : Int) (R C lim mar ln : Int) : (SampleStack_L pr pc xs m0 m1 m2 m3 m4 m5 m6 m7 m8 R C lim mar ln).length ≤ 3500 := by
  unfold SampleStack_L
  split
  · rename_i h
    obtain ⟨R', C', rfl, rfl, _, _, _, _, rc, _⟩ := sampling_nat (smp_true h).2.2
    split
    · rw [grdL_len]; exact rc
    · simp
  · simp
theorem blk16s {w : World} {b t : Nat} {x0 x1 x2 x3 x4 x5 x6 x7 x8 x9 x10 x11 x12 x13 x14 x15 : Value} (h : w.heap[b]? = some (.cells #[x0, x1, x2, x3, x4, x5, x6, x7, x8, x9, x10, x11, x12, x13, x14, x15] t (0, 0))) : w.cell? ⟨b, 0, none⟩ = some x0 ∧ w.cell? ⟨b, 1, none⟩ = some x1 ∧ w.cell? ⟨b, 2, none⟩ = some x2 ∧ w.cell? ⟨b, 3, none⟩ = some x3 ∧ w.cell? ⟨b, 4, none⟩ = some x4 ∧ w.cell? ⟨b, 5, none⟩ = some x5 ∧ w.cell? ⟨b, 6, none⟩ = some x6 ∧ w.cell? ⟨b, 7, none⟩ = some x7 ∧ w.cell? ⟨b, 8, none⟩ = some x8 ∧ w.cell? ⟨b, 9, none⟩ = some x9 ∧ w.cell? ⟨b, 10, none⟩ = some x10 ∧ w.cell? ⟨b, 11, none⟩ = some x11 ∧ w.cell? ⟨b, 12, none⟩ = some x12 ∧ w.cell? ⟨b, 13, none⟩ = some x13 ∧ w.cell? ⟨b, 14, none⟩ = some x14 ∧ w.cell? ⟨b, 15, none⟩ = some x15 := by
  refine ⟨?_, ?_, ?_, ?_, ?_, ?_, ?_, ?_, ?_, ?_, ?_, ?_, ?_, ?_, ?_, ?_⟩ <;> simp [World.cell?, h]
theorem stack_any (L : Int) (w : World) : Calls Try.prog 57 #[.int .i64 L] w fun e w' => ∃ p : Nat, e = .returned (.agg #[.func (.func 90) #[] #[.pointer (some ⟨p, 0, none⟩)]]) ∧ w'.heap[p]? = some (.cells #[.int .i64 L] 2 (0, 0)) ∧ Below w.heap.size w w' := by
  have hrs := fun a m w2 => run_store Try.prog w2 a (.func (.func 90) #[] #[.pointer (some ⟨w.heap.size, 0, none⟩)]) m rfl
  go_enter Try.func57, Try.ntmps57
  go_wp2_with fail
  go_returns
  exact ⟨w.heap.size, rfl, by (repeat (first | (with_reducible exact heap_alloc_new _ _) | (rw [heap_drew1]) | (rw [heap_drewN1]) | (rw [Below.heap_setCell _ _ _ _ (by first | omega | (simp; done) | (simp; omega))]) | (rw [Below.heap_alloc _ _ _ (by first | omega | (simp; done) | (simp; omega))]) | (exact heap_alloc_at (by first | omega | (simp; done) | (simp; omega))))), by (repeat (first | (with_reducible assumption) | (with_reducible exact Below.refl _ _) | (with_reducible refine below_drewN' ?_ _) | (with_reducible refine Below.drew ?_) | ((with_reducible refine Below.alloc ?_ ?_ _); rotate_left; focus (first | (simp; done) | (simp; omega) | omega)) | ((with_reducible refine Below.setCell ?_ ?_ _); rotate_left; focus (first | (simp; done) | (simp; omega) | omega))))⟩
set_option maxRecDepth 20000 in
set_option maxHeartbeats 4000000 in
theorem votes_any (pr pc : Int) (A : Option Addr) (n cp : Nat) (m0 m1 m2 m3 m4 m5 m6 m7 m8 : Int) (R C : Nat) (lim mar : Int) (F : FuncId) (cap : Array Value) (sl : Nat → Nat → List Int) (w : World)
    (HEN : ∀ (args : Array Value) (w : World), (callFunc F args).run Try.prog w = .ok (.enter F args) w)
    (HF : ∀ r c : Nat, r < R → c < C → ∀ w', Below w.heap.size w w' → Calls Try.prog F (#[.agg #[.int .i64 pr, .int .i64 pc, .slice A n cp, .int .i64 m0, .int .i64 m1, .int .i64 m2, .int .i64 m3, .int .i64 m4, .int .i64 m5, .int .i64 m6, .int .i64 m7, .int .i64 m8, .int .i64 R, .int .i64 C, .int .i64 lim, .int .i64 mar], .int .i64 r, .int .i64 c] ++ cap) w' fun e w'' => ∃ v, e = .returned v ∧ Own w'' w'.heap.size v (sl r c) ∧ Below w'.heap.size w' w'')
    (hsl : ∀ r c, (sl r c).length ≤ 1000) (hR : R ≤ 3500) (hC : C ≤ 3500) (hRC : R * C ≤ 3500) :
    Calls Try.prog 56 #[.agg #[.int .i64 pr, .int .i64 pc, .slice A n cp, .int .i64 m0, .int .i64 m1, .int .i64 m2, .int .i64 m3, .int .i64 m4, .int .i64 m5, .int .i64 m6, .int .i64 m7, .int .i64 m8, .int .i64 R, .int .i64 C, .int .i64 lim, .int .i64 mar], .agg #[.func (.func F) #[] cap]] w fun e w' => ∃ v, e = .returned (.agg #[.int .i64 R, .int .i64 C, v]) ∧ Own w' w.heap.size v (grdL R C fun r c => voteV (sl r c)) ∧ Below w.heap.size w w' := by
  have hs0 : (((w.alloc (.cells #[.int .i64 pr, .int .i64 pc, .slice A n cp, .int .i64 m0, .int .i64 m1, .int .i64 m2, .int .i64 m3, .int .i64 m4, .int .i64 m5, .int .i64 m6, .int .i64 m7, .int .i64 m8, .int .i64 R, .int .i64 C, .int .i64 lim, .int .i64 mar] 80)).alloc (.cells #[.func (.func F) #[] cap] 91)).alloc (.cells #[.int .i64 0, .int .i64 0, .slice none 0 0] 41)).heap[w.heap.size]? = some (.cells #[.int .i64 pr, .int .i64 pc, .slice A n cp, .int .i64 m0, .int .i64 m1, .int .i64 m2, .int .i64 m3, .int .i64 m4, .int .i64 m5, .int .i64 m6, .int .i64 m7, .int .i64 m8, .int .i64 R, .int .i64 C, .int .i64 lim, .int .i64 mar] 80 (0, 0)) := blk_alloc (blk_alloc (heap_alloc_new _ _) (by simp)) (by simp; omega)
  have hw0 : (((w.alloc (.cells #[.int .i64 pr, .int .i64 pc, .slice A n cp, .int .i64 m0, .int .i64 m1, .int .i64 m2, .int .i64 m3, .int .i64 m4, .int .i64 m5, .int .i64 m6, .int .i64 m7, .int .i64 m8, .int .i64 R, .int .i64 C, .int .i64 lim, .int .i64 mar] 80)).alloc (.cells #[.func (.func F) #[] cap] 91)).alloc (.cells #[.int .i64 0, .int .i64 0, .slice none 0 0] 41)).heap[w.heap.size + 1]? = some (.cells #[.func (.func F) #[] cap] 91 (0, 0)) := blk_alloc (heap_alloc_at (by simp)) (by simp)
  have HZ0 := Lib.hid (show (((w.alloc (.cells #[.int .i64 pr, .int .i64 pc, .slice A n cp, .int .i64 m0, .int .i64 m1, .int .i64 m2, .int .i64 m3, .int .i64 m4, .int .i64 m5, .int .i64 m6, .int .i64 m7, .int .i64 m8, .int .i64 R, .int .i64 C, .int .i64 lim, .int .i64 mar] 80)).alloc (.cells #[.func (.func F) #[] cap] 91)).alloc (.cells #[.int .i64 0, .int .i64 0, .slice none 0 0] 41)).heap[w.heap.size + 1 + 1]? = some (.cells #[.int .i64 0, .int .i64 0, .slice none 0 0] 41 (0, 0)) from heap_alloc_at (by simp))
  have hb0 : Below w.heap.size w (((w.alloc (.cells #[.int .i64 pr, .int .i64 pc, .slice A n cp, .int .i64 m0, .int .i64 m1, .int .i64 m2, .int .i64 m3, .int .i64 m4, .int .i64 m5, .int .i64 m6, .int .i64 m7, .int .i64 m8, .int .i64 R, .int .i64 C, .int .i64 lim, .int .i64 mar] 80)).alloc (.cells #[.func (.func F) #[] cap] 91)).alloc (.cells #[.int .i64 0, .int .i64 0, .slice none 0 0] 41)) := by go_grown
  have hsz0 : (((w.alloc (.cells #[.int .i64 pr, .int .i64 pc, .slice A n cp, .int .i64 m0, .int .i64 m1, .int .i64 m2, .int .i64 m3, .int .i64 m4, .int .i64 m5, .int .i64 m6, .int .i64 m7, .int .i64 m8, .int .i64 R, .int .i64 C, .int .i64 lim, .int .i64 mar] 80)).alloc (.cells #[.func (.func F) #[] cap] 91)).alloc (.cells #[.int .i64 0, .int .i64 0, .slice none 0 0] 41)).heap.size = w.heap.size + 1 + 1 + 1 := by simp
  have HG := Lib.hid (grid_any pr pc A n cp m0 m1 m2 m3 m4 m5 m6 m7 m8 R C lim mar 88 #[] #[.pointer (some ⟨w.heap.size + 1, 0, none⟩), .pointer (some ⟨w.heap.size, 0, none⟩)] (fun r c => voteV (sl r c)) _ (fun args w => by kernel_rfl)
    (fun i j hi hj w'' hb'' => by
      have := votes1_any pr pc A n cp m0 m1 m2 m3 m4 m5 m6 m7 m8 R C lim mar F cap (sl i j) i j (w.heap.size + 1) w.heap.size w'' HEN (fun w3 hb3 => HF i j hi hj w3 ((hb0.trans (hb''.mono (by omega))).trans (hb3.mono (by have := hb''.size; omega)))) (hsl i j) (blk_below hw0 hb'' (by omega)) (blk_below hs0 hb'' (by omega))
      rw [show (#[] ++ (#[.int .i64 (i : Int), .int .i64 (j : Int)] ++ #[.pointer (some ⟨w.heap.size + 1, 0, none⟩), .pointer (some ⟨w.heap.size, 0, none⟩)]) : Array Value) = #[.int .i64 (i : Int), .int .i64 (j : Int), .pointer (some ⟨w.heap.size + 1, 0, none⟩), .pointer (some ⟨w.heap.size, 0, none⟩)] from rfl]
      exact this) hR hC hRC)
  generalize (grdL R C fun r c => voteV (sl r c)) = GL at *
  rw [hsz0] at HG
  clear HF hs0 hw0 hb0 hsl HEN
  go_enter Try.func56, Try.ntmps56
  go_wp2_with fail
  go_at_call 52
  with_reducible refine HG.out.mono ?_
  rintro e1 w1 ⟨v1, rfl, ho1, hb1⟩
  have hB1 : Below w.heap.size w w1 := Below.trans (by go_grown) (hb1.mono (by omega))
  have HZ1 := Lib.hid (blk_below HZ0.out hb1 (by omega))
  obtain ⟨A1, c1, rfl, hr1⟩ := ho1.shape
  have HO1 := Lib.hid ho1
  have hzz : w.heap.size + 1 + 1 < w.heap.size + 1 + 1 + 1 := Nat.lt_succ_self _
  have hzw : w.heap.size + 1 + 1 < w1.heap.size := by have := hb1.size; omega
  clear ho1 hr1 hb1 hsz0
  obtain ⟨z0, z1, z2, zf⟩ := blk3 HZ1.out
  go_wp2_with fail
  obtain ⟨s0, s1, s2⟩ := res3 HZ1.out (.int .i64 R) (.int .i64 C) (.slice A1 GL.length c1)
  (try simp only [Exit.inBlock, Exit.then]); refine bodyPost_ret (by simp [results, Try.results56, go_sem, s0, s1, s2]; try rfl) rfl ?_
  exact ⟨_, rfl, ((((HO1.out.setLt hzz _).setLt hzz _).setLt hzz _)).more (by omega), by (repeat (first | (with_reducible assumption) | (with_reducible exact Below.refl _ _) | (with_reducible refine below_drewN' ?_ _) | (with_reducible refine Below.drew ?_) | ((with_reducible refine Below.alloc ?_ ?_ _); rotate_left; focus (first | (simp; done) | (simp; omega) | omega)) | ((with_reducible refine Below.setCell ?_ ?_ _); rotate_left; focus (first | (simp; done) | (simp; omega) | omega))))⟩
set_option maxRecDepth 20000 in
set_option maxHeartbeats 8000000 in
theorem SampleStack_any (pr pc : Int) (A : Option Addr) (n cp : Nat) (xs : List Int) (m0 m1 m2 m3 m4 m5 m6 m7 m8 : Int) (R C lim mar ln : Int) (w : World) (B : Nat) (hr : RI w B A n xs) (hB : B ≤ w.heap.size) (hn : n ≤ 1000000000000000) :
    Calls Try.prog 24 #[.agg #[.int .i64 pr, .int .i64 pc, .slice A n cp], .agg #[.int .i64 m0, .int .i64 m1, .int .i64 m2, .int .i64 m3, .int .i64 m4, .int .i64 m5, .int .i64 m6, .int .i64 m7, .int .i64 m8], .agg #[.int .i64 R, .int .i64 C, .int .i64 lim, .int .i64 mar], .int .i64 ln] w fun e w' => ∃ v, e = .returned (.tuple #[.agg #[.int .i64 (gI (SampleStack_K pr pc xs m0 m1 m2 m3 m4 m5 m6 m7 m8 R C lim mar ln) R), .int .i64 (gI (SampleStack_K pr pc xs m0 m1 m2 m3 m4 m5 m6 m7 m8 R C lim mar ln) C), v], .int .i64 (SampleStack_K pr pc xs m0 m1 m2 m3 m4 m5 m6 m7 m8 R C lim mar ln)]) ∧ Own w' w.heap.size v (SampleStack_L pr pc xs m0 m1 m2 m3 m4 m5 m6 m7 m8 R C lim mar ln) ∧ Below w.heap.size w w' := by
  unfold SampleStack_K SampleStack_L
  cases h : smpB pr pc xs m0 m1 m2 m3 m4 m5 m6 m7 m8 R C lim mar
  · rw [if_neg (by simp), if_neg (by simp), gI_1, gI_1]
    have HS := Lib.hid (fun (w' : World) (hb : Below w.heap.size w w') => samplerOf_no pr pc A n cp xs m0 m1 m2 m3 m4 m5 m6 m7 m8 R C lim mar w' w.heap.size ((hr.more hB).below hb) hb.size hn h)
    clear hr h
    have HZ0 : Hid (((((w.alloc (.cells #[.int .i64 pr, .int .i64 pc, .slice A n cp] 32)).alloc (.cells #[.int .i64 m0, .int .i64 m1, .int .i64 m2, .int .i64 m3, .int .i64 m4, .int .i64 m5, .int .i64 m6, .int .i64 m7, .int .i64 m8] 34)).alloc (.cells #[.int .i64 R, .int .i64 C, .int .i64 lim, .int .i64 mar] 36)).alloc (.cells #[.int .i64 0, .int .i64 0, .slice none 0 0] 41)).heap[w.heap.size + 1 + 1 + 1]? = some (.cells #[.int .i64 0, .int .i64 0, .slice none 0 0] 41 (0, 0))) := Lib.hid (heap_alloc_at (by simp))
    go_enter Try.func24, Try.ntmps24
    go_wp2_with fail
    (go_at_call 47; go_call (HS.out _ (by (repeat (first | (with_reducible assumption) | (with_reducible exact Below.refl _ _) | (with_reducible refine below_drewN' ?_ _) | (with_reducible refine Below.drew ?_) | ((with_reducible refine Below.alloc ?_ ?_ _); rotate_left; focus (first | (simp; done) | (simp; omega) | omega)) | ((with_reducible refine Below.setCell ?_ ?_ _); rotate_left; focus (first | (simp; done) | (simp; omega) | omega)))))) as e1 w1 ⟨rfl, hb1⟩; obtain ⟨hc1, hf1⟩ := bcell hb1; have hB1 : Below w.heap.size w w1 := (below_then (by first | (go_grown; done) | (repeat (first | (with_reducible assumption) | (with_reducible exact Below.refl _ _) | (with_reducible refine below_drewN' ?_ _) | (with_reducible refine Below.drew ?_) | ((with_reducible refine Below.alloc ?_ ?_ _); rotate_left; focus (first | (simp; done) | (simp; omega) | omega)) | ((with_reducible refine Below.setCell ?_ ?_ _); rotate_left; focus (first | (simp; done) | (simp; omega) | omega))))) (by first | omega | (simp; done) | (simp; omega)) hb1); have hz1a : w.heap.size < w1.heap.size := (by have := hb1.size; first | omega | (simp at this; omega)); have hz1b : w.heap.size + 1 < w1.heap.size := (by have := hb1.size; first | omega | (simp at this; omega)); have hz1c : w.heap.size + 1 + 1 < w1.heap.size := (by have := hb1.size; first | omega | (simp at this; omega)); have hz1d : w.heap.size + 1 + 1 + 1 < w1.heap.size := (by have := hb1.size; first | omega | (simp at this; omega)))
    have HZ1 := Lib.hid (blk_below HZ0.out hb1 (by simp))
    clear hc1 hf1 hb1
    obtain ⟨z0, z1, z2, zf⟩ := blk3 HZ1.out
    obtain ⟨s0, s1, s2, -⟩ := blk3 (blk_alloc (u := .cells #[.int .i64 0, .int .i64 0, .slice none 0 0, .int .i64 0, .int .i64 0, .int .i64 0, .int .i64 0, .int .i64 0, .int .i64 0, .int .i64 0, .int .i64 0, .int .i64 0, .int .i64 0, .int .i64 0, .int .i64 0, .int .i64 0] 80) (blk3_2 (u := .slice none 0 0) (blk3_1 (u := .int .i64 0) (blk3_0 (u := .int .i64 0) HZ1.out))) (by simp; omega))
    go_wp2_with fail
    (try simp only [Exit.inBlock, Exit.then]); refine bodyPost_ret (by simp [results, Try.results24, go_sem, s0, s1, s2]; try rfl) rfl ?_
    exact ⟨_, rfl, Own.nil, by (repeat (first | (with_reducible assumption) | (with_reducible exact Below.refl _ _) | (with_reducible refine below_drewN' ?_ _) | (with_reducible refine Below.drew ?_) | ((with_reducible refine Below.alloc ?_ ?_ _); rotate_left; focus (first | (simp; done) | (simp; omega) | omega)) | ((with_reducible refine Below.setCell ?_ ?_ _); rotate_left; focus (first | (simp; done) | (simp; omega) | omega))))⟩
  · rw [if_pos rfl, if_pos rfl]
    cases h7 : inR ln 1 7
    · rw [if_neg (by simp), if_neg (by simp), gI_2, gI_2]
      obtain ⟨g1, g2, g3⟩ := smp_true h
      obtain ⟨R', C', rfl, rfl, r1, r2, c1, c2, rc, lb, mb⟩ := sampling_nat g3
      have hx := rasB_true g1
      have hrs := g1
      simp only [rasB, Bool.and_eq_true, decide_eq_true_eq] at hrs
      obtain ⟨p1, p2, p3⟩ := rszB_true hrs.1.1
      have hlen := hrs.1.2
      obtain ⟨PR, rfl⟩ := Int.eq_ofNat_of_zero_le (show 0 ≤ pr by omega)
      obtain ⟨PC, rfl⟩ := Int.eq_ofNat_of_zero_le (show 0 ≤ pc by omega)
      rw [← Int.natCast_mul] at p3 hlen
      have hn1 : n = PR * PC := by rw [hr.len] at hlen; omega
      have hxs : ∀ k, k < n → 0 ≤ nth xs k ∧ nth xs k ≤ 255 := fun k hk => hx.2.2 k (by rw [hr.len]; exact hk)
      have HS := Lib.hid (fun (w' : World) (hb : Below w.heap.size w w') => samplerOf_ok (PR : Int) PC A n cp xs m0 m1 m2 m3 m4 m5 m6 m7 m8 R' C' lim mar w' w.heap.size ((hr.more hB).below hb) hb.size hn h)
      have HRG := Lib.hid (fun w => inRange_any ln 1 7 w)
      rw [h7] at HRG
      clear h g1 g2 g3 hr hx hrs p1 p2 p3 hlen hn1 hxs lb mb rc h7
      have HZ0 : Hid (((((w.alloc (.cells #[.int .i64 PR, .int .i64 PC, .slice A n cp] 32)).alloc (.cells #[.int .i64 m0, .int .i64 m1, .int .i64 m2, .int .i64 m3, .int .i64 m4, .int .i64 m5, .int .i64 m6, .int .i64 m7, .int .i64 m8] 34)).alloc (.cells #[.int .i64 R', .int .i64 C', .int .i64 lim, .int .i64 mar] 36)).alloc (.cells #[.int .i64 0, .int .i64 0, .slice none 0 0] 41)).heap[w.heap.size + 1 + 1 + 1]? = some (.cells #[.int .i64 0, .int .i64 0, .slice none 0 0] 41 (0, 0))) := Lib.hid (heap_alloc_at (by simp))
      go_enter Try.func24, Try.ntmps24
      go_wp2_with fail
      (go_at_call 47; go_call (HS.out _ (by (repeat (first | (with_reducible assumption) | (with_reducible exact Below.refl _ _) | (with_reducible refine below_drewN' ?_ _) | (with_reducible refine Below.drew ?_) | ((with_reducible refine Below.alloc ?_ ?_ _); rotate_left; focus (first | (simp; done) | (simp; omega) | omega)) | ((with_reducible refine Below.setCell ?_ ?_ _); rotate_left; focus (first | (simp; done) | (simp; omega) | omega)))))) as e1 w1 ⟨rfl, hb1⟩; obtain ⟨hc1, hf1⟩ := bcell hb1; have hB1 : Below w.heap.size w w1 := (below_then (by first | (go_grown; done) | (repeat (first | (with_reducible assumption) | (with_reducible exact Below.refl _ _) | (with_reducible refine below_drewN' ?_ _) | (with_reducible refine Below.drew ?_) | ((with_reducible refine Below.alloc ?_ ?_ _); rotate_left; focus (first | (simp; done) | (simp; omega) | omega)) | ((with_reducible refine Below.setCell ?_ ?_ _); rotate_left; focus (first | (simp; done) | (simp; omega) | omega))))) (by first | omega | (simp; done) | (simp; omega)) hb1); have hz1a : w.heap.size < w1.heap.size := (by have := hb1.size; first | omega | (simp at this; omega)); have hz1b : w.heap.size + 1 < w1.heap.size := (by have := hb1.size; first | omega | (simp at this; omega)); have hz1c : w.heap.size + 1 + 1 < w1.heap.size := (by have := hb1.size; first | omega | (simp at this; omega)); have hz1d : w.heap.size + 1 + 1 + 1 < w1.heap.size := (by have := hb1.size; first | omega | (simp at this; omega)))
      have HZ1 := Lib.hid (blk_below HZ0.out hb1 (by simp))
      clear hc1 hf1 hb1
      obtain ⟨z0, z1, z2, zf⟩ := blk3 HZ1.out
      obtain ⟨s0, s1, s2, -⟩ := blk3 (blk_alloc (u := .cells #[.int .i64 PR, .int .i64 PC, .slice A n cp, .int .i64 m0, .int .i64 m1, .int .i64 m2, .int .i64 m3, .int .i64 m4, .int .i64 m5, .int .i64 m6, .int .i64 m7, .int .i64 m8, .int .i64 R', .int .i64 C', .int .i64 lim, .int .i64 mar] 80) (blk3_2 (u := .slice none 0 0) (blk3_1 (u := .int .i64 0) (blk3_0 (u := .int .i64 0) HZ1.out))) (by simp; omega))
      go_wp2_with (go_at_call 48; with_reducible refine (HRG.out _).mono ?_; rintro e w' ⟨rfl, rfl⟩)
      (try simp only [Exit.inBlock, Exit.then]); refine bodyPost_ret (by simp [results, Try.results24, go_sem, s0, s1, s2]; try rfl) rfl ?_
      exact ⟨_, rfl, Own.nil, by (repeat (first | (with_reducible assumption) | (with_reducible exact Below.refl _ _) | (with_reducible refine below_drewN' ?_ _) | (with_reducible refine Below.drew ?_) | ((with_reducible refine Below.alloc ?_ ?_ _); rotate_left; focus (first | (simp; done) | (simp; omega) | omega)) | ((with_reducible refine Below.setCell ?_ ?_ _); rotate_left; focus (first | (simp; done) | (simp; omega) | omega))))⟩
    · rw [if_pos rfl, if_pos rfl, gI_0, gI_0]
      obtain ⟨g1, g2, g3⟩ := smp_true h
      obtain ⟨R', C', rfl, rfl, r1, r2, c1, c2, rc, lb, mb⟩ := sampling_nat g3
      have hx := rasB_true g1
      have hrs := g1
      simp only [rasB, Bool.and_eq_true, decide_eq_true_eq] at hrs
      obtain ⟨p1, p2, p3⟩ := rszB_true hrs.1.1
      have hlen := hrs.1.2
      obtain ⟨PR, rfl⟩ := Int.eq_ofNat_of_zero_le (show 0 ≤ pr by omega)
      obtain ⟨PC, rfl⟩ := Int.eq_ofNat_of_zero_le (show 0 ≤ pc by omega)
      rw [← Int.natCast_mul] at p3 hlen
      have hn1 : n = PR * PC := by rw [hr.len] at hlen; omega
      have hxs : ∀ k, k < n → 0 ≤ nth xs k ∧ nth xs k ≤ 255 := fun k hk => hx.2.2 k (by rw [hr.len]; exact hk)
      obtain ⟨l1, l2⟩ := inR_true h7
      obtain ⟨L, rfl⟩ := Int.eq_ofNat_of_zero_le (show 0 ≤ ln by omega)
      have hL7 : L ≤ 7 := by omega
      have HS := Lib.hid (fun (w' : World) (hb : Below w.heap.size w w') => samplerOf_ok (PR : Int) PC A n cp xs m0 m1 m2 m3 m4 m5 m6 m7 m8 R' C' lim mar w' w.heap.size ((hr.more hB).below hb) hb.size hn h)
      have HRG := Lib.hid (fun w => inRange_any (L : Int) 1 7 w)
      rw [h7] at HRG
      have HV := Lib.hid (fun (p : Nat) (w' : World) (hb : Below w.heap.size w w') (hp : w'.heap[p]? = some (.cells #[.int .i64 L] 2 (0, 0))) => votes_any (PR : Int) PC A n cp m0 m1 m2 m3 m4 m5 m6 m7 m8 R' C' lim mar 90 #[.pointer (some ⟨p, 0, none⟩)] (stkL (tkF PR PC xs m0 m1 m2 m3 m4 m5 m6 m7 m8 lim mar) R' C' L) w' (fun args w => by kernel_rfl)
        (fun i j hi hj w'' hb'' => by
          have := stack1_any PR PC A n cp xs m0 m1 m2 m3 m4 m5 m6 m7 m8 R' C' lim mar L i j p w'' w.heap.size ((hr.more hB).below (hb.trans (hb''.mono hb.size))) (Nat.le_trans hb.size hb''.size) hn1 (by omega) (by omega) (by omega) hxs g2 lb mb r2 c2 rc hi hj hL7 (blk_below hp hb'' (lt_of_block hp))
          rw [show (#[.agg #[.int .i64 PR, .int .i64 PC, .slice A n cp, .int .i64 m0, .int .i64 m1, .int .i64 m2, .int .i64 m3, .int .i64 m4, .int .i64 m5, .int .i64 m6, .int .i64 m7, .int .i64 m8, .int .i64 R', .int .i64 C', .int .i64 lim, .int .i64 mar], .int .i64 (i : Int), .int .i64 (j : Int)] ++ #[.pointer (some ⟨p, 0, none⟩)] : Array Value) = #[.agg #[.int .i64 PR, .int .i64 PC, .slice A n cp, .int .i64 m0, .int .i64 m1, .int .i64 m2, .int .i64 m3, .int .i64 m4, .int .i64 m5, .int .i64 m6, .int .i64 m7, .int .i64 m8, .int .i64 R', .int .i64 C', .int .i64 lim, .int .i64 mar], .int .i64 (i : Int), .int .i64 (j : Int), .pointer (some ⟨p, 0, none⟩)] from rfl]
          exact this) (fun i j => by rw [stkL_len]; omega) r2 c2 rc)
      rw [show (PR : Int).toNat = PR from rfl, show (PC : Int).toNat = PC from rfl, show (R' : Int).toNat = R' from rfl, show (C' : Int).toNat = C' from rfl] at *
      obtain ⟨GL, hGL⟩ : ∃ GL, grdL R' C' (fun i j => voteV (stkL (tkF PR PC xs m0 m1 m2 m3 m4 m5 m6 m7 m8 lim mar) R' C' L i j)) = GL := ⟨_, rfl⟩
      rw [show (L : Int).toNat = L from rfl] at *
      rw [hGL] at HV ⊢
      clear h g1 g2 g3 hr hx hrs p1 p2 p3 hlen hn1 hxs lb mb rc hGL h7
      have HZ0 : Hid (((((w.alloc (.cells #[.int .i64 PR, .int .i64 PC, .slice A n cp] 32)).alloc (.cells #[.int .i64 m0, .int .i64 m1, .int .i64 m2, .int .i64 m3, .int .i64 m4, .int .i64 m5, .int .i64 m6, .int .i64 m7, .int .i64 m8] 34)).alloc (.cells #[.int .i64 R', .int .i64 C', .int .i64 lim, .int .i64 mar] 36)).alloc (.cells #[.int .i64 0, .int .i64 0, .slice none 0 0] 41)).heap[w.heap.size + 1 + 1 + 1]? = some (.cells #[.int .i64 0, .int .i64 0, .slice none 0 0] 41 (0, 0))) := Lib.hid (heap_alloc_at (by simp))
      go_enter Try.func24, Try.ntmps24
      go_wp2_with fail
      (go_at_call 47; go_call (HS.out _ (by (repeat (first | (with_reducible assumption) | (with_reducible exact Below.refl _ _) | (with_reducible refine below_drewN' ?_ _) | (with_reducible refine Below.drew ?_) | ((with_reducible refine Below.alloc ?_ ?_ _); rotate_left; focus (first | (simp; done) | (simp; omega) | omega)) | ((with_reducible refine Below.setCell ?_ ?_ _); rotate_left; focus (first | (simp; done) | (simp; omega) | omega)))))) as e1 w1 ⟨rfl, hb1⟩; obtain ⟨hc1, hf1⟩ := bcell hb1; have hB1 : Below w.heap.size w w1 := (below_then (by first | (go_grown; done) | (repeat (first | (with_reducible assumption) | (with_reducible exact Below.refl _ _) | (with_reducible refine below_drewN' ?_ _) | (with_reducible refine Below.drew ?_) | ((with_reducible refine Below.alloc ?_ ?_ _); rotate_left; focus (first | (simp; done) | (simp; omega) | omega)) | ((with_reducible refine Below.setCell ?_ ?_ _); rotate_left; focus (first | (simp; done) | (simp; omega) | omega))))) (by first | omega | (simp; done) | (simp; omega)) hb1); have hz1a : w.heap.size < w1.heap.size := (by have := hb1.size; first | omega | (simp at this; omega)); have hz1b : w.heap.size + 1 < w1.heap.size := (by have := hb1.size; first | omega | (simp at this; omega)); have hz1c : w.heap.size + 1 + 1 < w1.heap.size := (by have := hb1.size; first | omega | (simp at this; omega)); have hz1d : w.heap.size + 1 + 1 + 1 < w1.heap.size := (by have := hb1.size; first | omega | (simp at this; omega)))
      have HZ1 := Lib.hid (blk_below HZ0.out hb1 (by simp))
      have HT2 := Lib.hid (heap_alloc_new w1 (.cells #[.int .i64 PR, .int .i64 PC, .slice A n cp, .int .i64 m0, .int .i64 m1, .int .i64 m2, .int .i64 m3, .int .i64 m4, .int .i64 m5, .int .i64 m6, .int .i64 m7, .int .i64 m8, .int .i64 R', .int .i64 C', .int .i64 lim, .int .i64 mar] 80))
      have HZ2 := Lib.hid (blk_alloc (u := .cells #[.int .i64 PR, .int .i64 PC, .slice A n cp, .int .i64 m0, .int .i64 m1, .int .i64 m2, .int .i64 m3, .int .i64 m4, .int .i64 m5, .int .i64 m6, .int .i64 m7, .int .i64 m8, .int .i64 R', .int .i64 C', .int .i64 lim, .int .i64 mar] 80) HZ1.out hz1d)
      have HB2 := Lib.hid (hB1.alloc (Nat.le_of_lt hz1a) (.cells #[.int .i64 PR, .int .i64 PC, .slice A n cp, .int .i64 m0, .int .i64 m1, .int .i64 m2, .int .i64 m3, .int .i64 m4, .int .i64 m5, .int .i64 m6, .int .i64 m7, .int .i64 m8, .int .i64 R', .int .i64 C', .int .i64 lim, .int .i64 mar] 80))
      have hz2 : w1.heap.size < (w1.alloc (.cells #[.int .i64 PR, .int .i64 PC, .slice A n cp, .int .i64 m0, .int .i64 m1, .int .i64 m2, .int .i64 m3, .int .i64 m4, .int .i64 m5, .int .i64 m6, .int .i64 m7, .int .i64 m8, .int .i64 R', .int .i64 C', .int .i64 lim, .int .i64 mar] 80)).heap.size := by simp
      clear hc1 hf1 hb1 hB1
      go_wp2_with (go_at_call 48; with_reducible refine (HRG.out _).mono ?_; rintro e w' ⟨rfl, rfl⟩)
      generalize w1.alloc (.cells #[.int .i64 PR, .int .i64 PC, .slice A n cp, .int .i64 m0, .int .i64 m1, .int .i64 m2, .int .i64 m3, .int .i64 m4, .int .i64 m5, .int .i64 m6, .int .i64 m7, .int .i64 m8, .int .i64 R', .int .i64 C', .int .i64 lim, .int .i64 mar] 80) = w2 at *
      have hz2d : w.heap.size + 1 + 1 + 1 < w2.heap.size := by omega
      have HC2 := Lib.hid (blk16s HT2.out)
      go_region_held3 (fun w' => w'.cell? ⟨w1.heap.size, 0, none⟩ = some (.int .i64 PR) ∧ w'.cell? ⟨w1.heap.size, 1, none⟩ = some (.int .i64 PC) ∧ w'.cell? ⟨w1.heap.size, 2, none⟩ = some (.slice A n cp) ∧ w'.cell? ⟨w1.heap.size, 3, none⟩ = some (.int .i64 m0) ∧ w'.cell? ⟨w1.heap.size, 4, none⟩ = some (.int .i64 m1) ∧ w'.cell? ⟨w1.heap.size, 5, none⟩ = some (.int .i64 m2) ∧ w'.cell? ⟨w1.heap.size, 6, none⟩ = some (.int .i64 m3) ∧ w'.cell? ⟨w1.heap.size, 7, none⟩ = some (.int .i64 m4) ∧ w'.cell? ⟨w1.heap.size, 8, none⟩ = some (.int .i64 m5) ∧ w'.cell? ⟨w1.heap.size, 9, none⟩ = some (.int .i64 m6) ∧ w'.cell? ⟨w1.heap.size, 10, none⟩ = some (.int .i64 m7) ∧ w'.cell? ⟨w1.heap.size, 11, none⟩ = some (.int .i64 m8) ∧ w'.cell? ⟨w1.heap.size, 12, none⟩ = some (.int .i64 R') ∧ w'.cell? ⟨w1.heap.size, 13, none⟩ = some (.int .i64 C') ∧ w'.cell? ⟨w1.heap.size, 14, none⟩ = some (.int .i64 lim) ∧ w'.cell? ⟨w1.heap.size, 15, none⟩ = some (.int .i64 mar))
        (first | exact HC2.out | exact blk16s (blk_below HT2.out hD4 hz2) | exact blk16s (blk_below HT2.out hD3 hz2) | exact blk16s (blk_other (blk_other (blk_other (blk_below HT2.out hD4 hz2) (by omega)) (by omega)) (by omega)) | go_keep)
        (first
          | (go_at_call 57; with_reducible refine (stack_any (L : Int) _).mono ?_; rintro e3 w3 ⟨p, rfl, hp, hb3⟩; have hD3 : Below w2.heap.size w2 w3 := below_then (by (repeat (first | (with_reducible assumption) | (with_reducible exact Below.refl _ _) | (with_reducible refine below_drewN' ?_ _) | (with_reducible refine Below.drew ?_) | ((with_reducible refine Below.alloc ?_ ?_ _); rotate_left; focus (first | (simp; done) | (simp; omega) | omega)) | ((with_reducible refine Below.setCell ?_ ?_ _); rotate_left; focus (first | (simp; done) | (simp; omega) | omega))))) (by first | omega | (simp; done) | (simp; omega)) hb3; have hsz3 := hD3.size)
          | (go_at_call 56; with_reducible refine (HV.out p _ (HB2.out.trans (hD3.mono (by omega))) hp).mono ?_; rintro e4 w4 ⟨v4, rfl, ho4, hb4⟩; have hD4 : Below w2.heap.size w2 w4 := hD3.trans (hb4.mono hsz3); obtain ⟨A4, c4, rfl, hr4⟩ := ho4.shape; have HO4 := Lib.hid ho4; have hsz4 := hb4.size; have HZ4 := Lib.hid (blk_below HZ2.out hD4 hz2d); obtain ⟨z0, z1, z2, zf⟩ := blk3 HZ4.out; clear ho4 hr4))
      have hzb : w.heap.size + 1 + 1 + 1 < w3.heap.size := by omega
      go_wp2_with fail
      obtain ⟨s0, s1, s2⟩ := res3 HZ4.out (.int .i64 R') (.int .i64 C') (.slice A4 GL.length c4)
      (try simp only [Exit.inBlock, Exit.then]); refine bodyPost_ret (by simp [results, Try.results24, go_sem, s0, s1, s2]; try rfl) rfl ?_
      have hBF : Below w.heap.size w w4 := HB2.out.trans (hD4.mono (by omega))
      exact ⟨_, rfl, ((((HO4.out.setLt hzb _).setLt hzb _).setLt hzb _)).more (by omega), by (repeat (first | (with_reducible assumption) | (with_reducible exact Below.refl _ _) | (with_reducible refine below_drewN' ?_ _) | (with_reducible refine Below.drew ?_) | ((with_reducible refine Below.alloc ?_ ?_ _); rotate_left; focus (first | (simp; done) | (simp; omega) | omega)) | ((with_reducible refine Below.setCell ?_ ?_ _); rotate_left; focus (first | (simp; done) | (simp; omega) | omega))))⟩
set_option maxRecDepth 20000 in
set_option maxHeartbeats 8000000 in
theorem sSampleStack_any (pr pc : Int) (A : Option Addr) (n cp : Nat) (xs : List Int) (m0 m1 m2 m3 m4 m5 m6 m7 m8 : Int) (R C lim mar ln : Int) (w : World) (B : Nat) (hr : RI w B A n xs) (hB : B ≤ w.heap.size) (hn : n ≤ 1000000000000000) :
    Calls Try.prog 23 #[.agg #[.int .i64 pr, .int .i64 pc, .slice A n cp], .agg #[.int .i64 m0, .int .i64 m1, .int .i64 m2, .int .i64 m3, .int .i64 m4, .int .i64 m5, .int .i64 m6, .int .i64 m7, .int .i64 m8], .agg #[.int .i64 R, .int .i64 C, .int .i64 lim, .int .i64 mar], .int .i64 ln] w fun e w' => ∃ v, e = .returned (.tuple #[.agg #[.int .i64 (gI (SampleStack_K pr pc xs m0 m1 m2 m3 m4 m5 m6 m7 m8 R C lim mar ln) R), .int .i64 (gI (SampleStack_K pr pc xs m0 m1 m2 m3 m4 m5 m6 m7 m8 R C lim mar ln) C), v], .int .i64 (SampleStack_K pr pc xs m0 m1 m2 m3 m4 m5 m6 m7 m8 R C lim mar ln)]) ∧ Own w' w.heap.size v (SampleStack_L pr pc xs m0 m1 m2 m3 m4 m5 m6 m7 m8 R C lim mar ln) ∧ Below w.heap.size w w' := by
  unfold SampleStack_K SampleStack_L
  cases h : smpB pr pc xs m0 m1 m2 m3 m4 m5 m6 m7 m8 R C lim mar
  · rw [if_neg (by simp), if_neg (by simp), gI_1, gI_1]
    have HS := Lib.hid (fun (w' : World) (hb : Below w.heap.size w w') => l26Code_no pr pc A n cp xs m0 m1 m2 m3 m4 m5 m6 m7 m8 R C lim mar w' w.heap.size ((hr.more hB).below hb) hb.size hn h)
    clear hr h
    have HZ0 : Hid (((((w.alloc (.cells #[.int .i64 pr, .int .i64 pc, .slice A n cp] 32)).alloc (.cells #[.int .i64 m0, .int .i64 m1, .int .i64 m2, .int .i64 m3, .int .i64 m4, .int .i64 m5, .int .i64 m6, .int .i64 m7, .int .i64 m8] 34)).alloc (.cells #[.int .i64 R, .int .i64 C, .int .i64 lim, .int .i64 mar] 36)).alloc (.cells #[.int .i64 0, .int .i64 0, .slice none 0 0] 41)).heap[w.heap.size + 1 + 1 + 1]? = some (.cells #[.int .i64 0, .int .i64 0, .slice none 0 0] 41 (0, 0))) := Lib.hid (heap_alloc_at (by simp))
    go_enter Try.func23, Try.ntmps23
    go_wp2_with fail
    (go_at_call 43; go_call (HS.out _ (by (repeat (first | (with_reducible assumption) | (with_reducible exact Below.refl _ _) | (with_reducible refine below_drewN' ?_ _) | (with_reducible refine Below.drew ?_) | ((with_reducible refine Below.alloc ?_ ?_ _); rotate_left; focus (first | (simp; done) | (simp; omega) | omega)) | ((with_reducible refine Below.setCell ?_ ?_ _); rotate_left; focus (first | (simp; done) | (simp; omega) | omega)))))) as e1 w1 ⟨rfl, hb1⟩; obtain ⟨hc1, hf1⟩ := bcell hb1; have hB1 : Below w.heap.size w w1 := (below_then (by first | (go_grown; done) | (repeat (first | (with_reducible assumption) | (with_reducible exact Below.refl _ _) | (with_reducible refine below_drewN' ?_ _) | (with_reducible refine Below.drew ?_) | ((with_reducible refine Below.alloc ?_ ?_ _); rotate_left; focus (first | (simp; done) | (simp; omega) | omega)) | ((with_reducible refine Below.setCell ?_ ?_ _); rotate_left; focus (first | (simp; done) | (simp; omega) | omega))))) (by first | omega | (simp; done) | (simp; omega)) hb1); have hz1a : w.heap.size < w1.heap.size := (by have := hb1.size; first | omega | (simp at this; omega)); have hz1b : w.heap.size + 1 < w1.heap.size := (by have := hb1.size; first | omega | (simp at this; omega)); have hz1c : w.heap.size + 1 + 1 < w1.heap.size := (by have := hb1.size; first | omega | (simp at this; omega)); have hz1d : w.heap.size + 1 + 1 + 1 < w1.heap.size := (by have := hb1.size; first | omega | (simp at this; omega)))
    have HZ1 := Lib.hid (blk_below HZ0.out hb1 (by simp))
    clear hc1 hf1 hb1
    obtain ⟨z0, z1, z2, zf⟩ := blk3 HZ1.out
    obtain ⟨s0, s1, s2⟩ := res3 HZ1.out (.int .i64 0) (.int .i64 0) (.slice none 0 0)
    go_wp2_with fail
    (try simp only [Exit.inBlock, Exit.then]); refine bodyPost_ret (by simp [results, Try.results23, go_sem, s0, s1, s2]; try rfl) rfl ?_
    exact ⟨_, rfl, Own.nil, by (repeat (first | (with_reducible assumption) | (with_reducible exact Below.refl _ _) | (with_reducible refine below_drewN' ?_ _) | (with_reducible refine Below.drew ?_) | ((with_reducible refine Below.alloc ?_ ?_ _); rotate_left; focus (first | (simp; done) | (simp; omega) | omega)) | ((with_reducible refine Below.setCell ?_ ?_ _); rotate_left; focus (first | (simp; done) | (simp; omega) | omega))))⟩
  · rw [if_pos rfl, if_pos rfl]
    cases h7 : inR ln 1 7
    · rw [if_neg (by simp), if_neg (by simp), gI_2, gI_2]
      obtain ⟨g1, g2, g3⟩ := smp_true h
      obtain ⟨R', C', rfl, rfl, r1, r2, c1, c2, rc, lb, mb⟩ := sampling_nat g3
      have hx := rasB_true g1
      have hrs := g1
      simp only [rasB, Bool.and_eq_true, decide_eq_true_eq] at hrs
      obtain ⟨p1, p2, p3⟩ := rszB_true hrs.1.1
      have hlen := hrs.1.2
      obtain ⟨PR, rfl⟩ := Int.eq_ofNat_of_zero_le (show 0 ≤ pr by omega)
      obtain ⟨PC, rfl⟩ := Int.eq_ofNat_of_zero_le (show 0 ≤ pc by omega)
      rw [← Int.natCast_mul] at p3 hlen
      have hn1 : n = PR * PC := by rw [hr.len] at hlen; omega
      have hxs : ∀ k, k < n → 0 ≤ nth xs k ∧ nth xs k ≤ 255 := fun k hk => hx.2.2 k (by rw [hr.len]; exact hk)
      have HS := Lib.hid (fun (w' : World) (hb : Below w.heap.size w w') => l26Code_ok (PR : Int) PC A n cp xs m0 m1 m2 m3 m4 m5 m6 m7 m8 R' C' lim mar w' w.heap.size ((hr.more hB).below hb) hb.size hn h)
      have HRG := Lib.hid (fun w => l01In_any ln 1 7 w)
      rw [h7] at HRG
      clear h g1 g2 g3 hr hx hrs p1 p2 p3 hlen hn1 hxs lb mb rc h7
      have HZ0 : Hid (((((w.alloc (.cells #[.int .i64 PR, .int .i64 PC, .slice A n cp] 32)).alloc (.cells #[.int .i64 m0, .int .i64 m1, .int .i64 m2, .int .i64 m3, .int .i64 m4, .int .i64 m5, .int .i64 m6, .int .i64 m7, .int .i64 m8] 34)).alloc (.cells #[.int .i64 R', .int .i64 C', .int .i64 lim, .int .i64 mar] 36)).alloc (.cells #[.int .i64 0, .int .i64 0, .slice none 0 0] 41)).heap[w.heap.size + 1 + 1 + 1]? = some (.cells #[.int .i64 0, .int .i64 0, .slice none 0 0] 41 (0, 0))) := Lib.hid (heap_alloc_at (by simp))
      go_enter Try.func23, Try.ntmps23
      go_wp2_with fail
      (go_at_call 43; go_call (HS.out _ (by (repeat (first | (with_reducible assumption) | (with_reducible exact Below.refl _ _) | (with_reducible refine below_drewN' ?_ _) | (with_reducible refine Below.drew ?_) | ((with_reducible refine Below.alloc ?_ ?_ _); rotate_left; focus (first | (simp; done) | (simp; omega) | omega)) | ((with_reducible refine Below.setCell ?_ ?_ _); rotate_left; focus (first | (simp; done) | (simp; omega) | omega)))))) as e1 w1 ⟨rfl, hb1⟩; obtain ⟨hc1, hf1⟩ := bcell hb1; have hB1 : Below w.heap.size w w1 := (below_then (by first | (go_grown; done) | (repeat (first | (with_reducible assumption) | (with_reducible exact Below.refl _ _) | (with_reducible refine below_drewN' ?_ _) | (with_reducible refine Below.drew ?_) | ((with_reducible refine Below.alloc ?_ ?_ _); rotate_left; focus (first | (simp; done) | (simp; omega) | omega)) | ((with_reducible refine Below.setCell ?_ ?_ _); rotate_left; focus (first | (simp; done) | (simp; omega) | omega))))) (by first | omega | (simp; done) | (simp; omega)) hb1); have hz1a : w.heap.size < w1.heap.size := (by have := hb1.size; first | omega | (simp at this; omega)); have hz1b : w.heap.size + 1 < w1.heap.size := (by have := hb1.size; first | omega | (simp at this; omega)); have hz1c : w.heap.size + 1 + 1 < w1.heap.size := (by have := hb1.size; first | omega | (simp at this; omega)); have hz1d : w.heap.size + 1 + 1 + 1 < w1.heap.size := (by have := hb1.size; first | omega | (simp at this; omega)))
      have HZ1 := Lib.hid (blk_below HZ0.out hb1 (by simp))
      clear hc1 hf1 hb1
      obtain ⟨z0, z1, z2, zf⟩ := blk3 HZ1.out
      obtain ⟨s0, s1, s2⟩ := res3 HZ1.out (.int .i64 0) (.int .i64 0) (.slice none 0 0)
      go_wp2_with (go_at_call 44; with_reducible refine (HRG.out _).mono ?_; rintro e w' ⟨rfl, rfl⟩)
      (try simp only [Exit.inBlock, Exit.then]); refine bodyPost_ret (by simp [results, Try.results23, go_sem, s0, s1, s2]; try rfl) rfl ?_
      exact ⟨_, rfl, Own.nil, by (repeat (first | (with_reducible assumption) | (with_reducible exact Below.refl _ _) | (with_reducible refine below_drewN' ?_ _) | (with_reducible refine Below.drew ?_) | ((with_reducible refine Below.alloc ?_ ?_ _); rotate_left; focus (first | (simp; done) | (simp; omega) | omega)) | ((with_reducible refine Below.setCell ?_ ?_ _); rotate_left; focus (first | (simp; done) | (simp; omega) | omega))))⟩
    · rw [if_pos rfl, if_pos rfl, gI_0, gI_0]
      obtain ⟨g1, g2, g3⟩ := smp_true h
      obtain ⟨R', C', rfl, rfl, r1, r2, c1, c2, rc, lb, mb⟩ := sampling_nat g3
      have hx := rasB_true g1
      have hrs := g1
      simp only [rasB, Bool.and_eq_true, decide_eq_true_eq] at hrs
      obtain ⟨p1, p2, p3⟩ := rszB_true hrs.1.1
      have hlen := hrs.1.2
      obtain ⟨PR, rfl⟩ := Int.eq_ofNat_of_zero_le (show 0 ≤ pr by omega)
      obtain ⟨PC, rfl⟩ := Int.eq_ofNat_of_zero_le (show 0 ≤ pc by omega)
      rw [← Int.natCast_mul] at p3 hlen
      have hn1 : n = PR * PC := by rw [hr.len] at hlen; omega
      have hxs : ∀ k, k < n → 0 ≤ nth xs k ∧ nth xs k ≤ 255 := fun k hk => hx.2.2 k (by rw [hr.len]; exact hk)
      obtain ⟨l1, l2⟩ := inR_true h7
      obtain ⟨L, rfl⟩ := Int.eq_ofNat_of_zero_le (show 0 ≤ ln by omega)
      have hL7 : L ≤ 7 := by omega
      have HS := Lib.hid (fun (w' : World) (hb : Below w.heap.size w w') => l26Code_ok (PR : Int) PC A n cp xs m0 m1 m2 m3 m4 m5 m6 m7 m8 R' C' lim mar w' w.heap.size ((hr.more hB).below hb) hb.size hn h)
      have HRG := Lib.hid (fun w => l01In_any (L : Int) 1 7 w)
      rw [h7] at HRG
      have HG := Lib.hid (fun (w' : World) (hb : Below w.heap.size w w') => l26Stack_any PR PC A n cp xs m0 m1 m2 m3 m4 m5 m6 m7 m8 R' C' lim mar L w' w.heap.size ((hr.more hB).below hb) hb.size hn1 (by omega) (by omega) (by omega) hxs g2 lb mb r2 c2 rc hL7)
      rw [show (PR : Int).toNat = PR from rfl, show (PC : Int).toNat = PC from rfl, show (R' : Int).toNat = R' from rfl, show (C' : Int).toNat = C' from rfl] at *
      obtain ⟨GL, hGL⟩ : ∃ GL, grdL R' C' (fun i j => voteV (stkL (tkF PR PC xs m0 m1 m2 m3 m4 m5 m6 m7 m8 lim mar) R' C' L i j)) = GL := ⟨_, rfl⟩
      rw [show (L : Int).toNat = L from rfl] at *
      rw [hGL] at HG ⊢
      clear h g1 g2 g3 hr hx hrs p1 p2 p3 hlen hn1 hxs lb mb rc hGL h7 l1 l2
      have HZ0 : Hid (((((w.alloc (.cells #[.int .i64 PR, .int .i64 PC, .slice A n cp] 32)).alloc (.cells #[.int .i64 m0, .int .i64 m1, .int .i64 m2, .int .i64 m3, .int .i64 m4, .int .i64 m5, .int .i64 m6, .int .i64 m7, .int .i64 m8] 34)).alloc (.cells #[.int .i64 R', .int .i64 C', .int .i64 lim, .int .i64 mar] 36)).alloc (.cells #[.int .i64 0, .int .i64 0, .slice none 0 0] 41)).heap[w.heap.size + 1 + 1 + 1]? = some (.cells #[.int .i64 0, .int .i64 0, .slice none 0 0] 41 (0, 0))) := Lib.hid (heap_alloc_at (by simp))
      go_enter Try.func23, Try.ntmps23
      go_wp2_with fail
      (go_at_call 43; go_call (HS.out _ (by (repeat (first | (with_reducible assumption) | (with_reducible exact Below.refl _ _) | (with_reducible refine below_drewN' ?_ _) | (with_reducible refine Below.drew ?_) | ((with_reducible refine Below.alloc ?_ ?_ _); rotate_left; focus (first | (simp; done) | (simp; omega) | omega)) | ((with_reducible refine Below.setCell ?_ ?_ _); rotate_left; focus (first | (simp; done) | (simp; omega) | omega)))))) as e1 w1 ⟨rfl, hb1⟩; obtain ⟨hc1, hf1⟩ := bcell hb1; have hB1 : Below w.heap.size w w1 := (below_then (by first | (go_grown; done) | (repeat (first | (with_reducible assumption) | (with_reducible exact Below.refl _ _) | (with_reducible refine below_drewN' ?_ _) | (with_reducible refine Below.drew ?_) | ((with_reducible refine Below.alloc ?_ ?_ _); rotate_left; focus (first | (simp; done) | (simp; omega) | omega)) | ((with_reducible refine Below.setCell ?_ ?_ _); rotate_left; focus (first | (simp; done) | (simp; omega) | omega))))) (by first | omega | (simp; done) | (simp; omega)) hb1); have hz1a : w.heap.size < w1.heap.size := (by have := hb1.size; first | omega | (simp at this; omega)); have hz1b : w.heap.size + 1 < w1.heap.size := (by have := hb1.size; first | omega | (simp at this; omega)); have hz1c : w.heap.size + 1 + 1 < w1.heap.size := (by have := hb1.size; first | omega | (simp at this; omega)); have hz1d : w.heap.size + 1 + 1 + 1 < w1.heap.size := (by have := hb1.size; first | omega | (simp at this; omega)))
      have HZ1 := Lib.hid (blk_below HZ0.out hb1 (by simp))
      obtain ⟨k0, k1, k2, -⟩ := blk3 (blk_below (blk_alloc (blk_alloc (blk_alloc (heap_alloc_new w (.cells #[.int .i64 PR, .int .i64 PC, .slice A n cp] 32)) (by simp)) (by simp; try omega)) (by simp; try omega)) hb1 (by simp; try omega))
      obtain ⟨l0, l1, l2, l3, l4, l5, l6, l7, l8, -⟩ := blk9 (blk_below (blk_alloc (blk_alloc (heap_alloc_at (w := w.alloc (.cells #[.int .i64 PR, .int .i64 PC, .slice A n cp] 32)) (b := w.heap.size + 1) (o := .cells #[.int .i64 m0, .int .i64 m1, .int .i64 m2, .int .i64 m3, .int .i64 m4, .int .i64 m5, .int .i64 m6, .int .i64 m7, .int .i64 m8] 34) (by simp)) (by simp; try omega)) (by simp; try omega)) hb1 (by simp; try omega))
      obtain ⟨m'0, m'1, m'2, m'3, -⟩ := blk4 (blk_below (blk_alloc (heap_alloc_at (w := (w.alloc (.cells #[.int .i64 PR, .int .i64 PC, .slice A n cp] 32)).alloc (.cells #[.int .i64 m0, .int .i64 m1, .int .i64 m2, .int .i64 m3, .int .i64 m4, .int .i64 m5, .int .i64 m6, .int .i64 m7, .int .i64 m8] 34)) (b := w.heap.size + 1 + 1) (o := .cells #[.int .i64 R', .int .i64 C', .int .i64 lim, .int .i64 mar] 36) (by simp)) (by simp; try omega)) hb1 (by simp; try omega))
      clear hc1 hf1 hb1
      go_wp2_with (first | (go_at_call 44; with_reducible refine (HRG.out _).mono ?_; rintro e w' ⟨rfl, rfl⟩) | ((go_at_call 55; go_call (HG.out _ (by (repeat (first | (with_reducible assumption) | (with_reducible exact Below.refl _ _) | (with_reducible refine below_drewN' ?_ _) | (with_reducible refine Below.drew ?_) | ((with_reducible refine Below.alloc ?_ ?_ _); rotate_left; focus (first | (simp; done) | (simp; omega) | omega)) | ((with_reducible refine Below.setCell ?_ ?_ _); rotate_left; focus (first | (simp; done) | (simp; omega) | omega)))))) as e2 w2 ⟨v2, rfl, ho2, hb2⟩; obtain ⟨hc2, hf2⟩ := bcell hb2; have hB2 : Below w.heap.size w w2 := (below_then (by first | (go_grown; done) | (repeat (first | (with_reducible assumption) | (with_reducible exact Below.refl _ _) | (with_reducible refine below_drewN' ?_ _) | (with_reducible refine Below.drew ?_) | ((with_reducible refine Below.alloc ?_ ?_ _); rotate_left; focus (first | (simp; done) | (simp; omega) | omega)) | ((with_reducible refine Below.setCell ?_ ?_ _); rotate_left; focus (first | (simp; done) | (simp; omega) | omega))))) (by first | omega | (simp; done) | (simp; omega)) hb2); have hz2a : w.heap.size < w2.heap.size := (by have := hb2.size; first | omega | (simp at this; omega)); have hz2b : w.heap.size + 1 < w2.heap.size := (by have := hb2.size; first | omega | (simp at this; omega)); have hz2c : w.heap.size + 1 + 1 < w2.heap.size := (by have := hb2.size; first | omega | (simp at this; omega)); have hz2d : w.heap.size + 1 + 1 + 1 < w2.heap.size := (by have := hb2.size; first | omega | (simp at this; omega))); have HZ2 := Lib.hid (blk_below HZ1.out hb2 (by omega)); obtain ⟨A2, c2', rfl, hr2⟩ := ho2.shape; have HO2 := Lib.hid ho2; clear hc2 hf2 hb2 ho2 hr2 k0 k1 k2 l0 l1 l2 l3 l4 l5 l6 l7 l8 m'0 m'1 m'2 m'3; obtain ⟨z0, z1, z2, zf⟩ := blk3 HZ2.out))
      obtain ⟨s0, s1, s2⟩ := res3 HZ2.out (.int .i64 R') (.int .i64 C') (.slice A2 GL.length c2')
      (try simp only [Exit.inBlock, Exit.then]); refine bodyPost_ret (by simp [results, Try.results23, go_sem, s0, s1, s2]; try rfl) rfl ?_
      exact ⟨_, rfl, ((((HO2.out.setLt hz1d _).setLt hz1d _).setLt hz1d _)).more (by omega), by (repeat (first | (with_reducible assumption) | (with_reducible exact Below.refl _ _) | (with_reducible refine below_drewN' ?_ _) | (with_reducible refine Below.drew ?_) | ((with_reducible refine Below.alloc ?_ ?_ _); rotate_left; focus (first | (simp; done) | (simp; omega) | omega)) | ((with_reducible refine Below.setCell ?_ ?_ _); rotate_left; focus (first | (simp; done) | (simp; omega) | omega))))⟩
end Go.Proofs.Ytflpllmbpfdnjaa
