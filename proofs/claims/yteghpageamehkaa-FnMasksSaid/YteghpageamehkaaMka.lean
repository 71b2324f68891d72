/-
  Contracts of chapter 16: ApplyMask, the program and the reference.
-/
import Derived.Test.YteghpageamehkaaC14K
import Derived.Test.YteghpageamehkaaC14S
import Derived.Test.YteghpageamehkaaC14E
import Derived.Test.YteghpageamehkaaLst
import Derived.Deep.RegionHeld3
import Derived.Test.YteghpageamehkaaC16A
import Derived.Test.YteghpageamehkaaC14A
import Derived.Test.YteghpageamehkaaC15I
import Derived.Test.YteghpageamehkaaC15P
import Derived.Test.YteghpageamehkaaPlW
import Derived.Test.YteghpageamehkaaDat
import Derived.Test.YteghpageamehkaaTk
import Derived.BigQuiet
namespace Go.Proofs.Yteghpageamehkaa
set_option linter.unusedSimpArgs false
open Go.RowKit

set_option maxHeartbeats 2000000 in
theorem gridCopy_any (r c : Int) (b o n cp : Nat) (xs : List Int) (w : World) (B : Nat) (hr : RI w B (some ⟨b, o, none⟩) n xs) (hB : B ≤ w.heap.size) (hn0 : 0 < n) (hn : n ≤ 1000000) :
    Calls Try.prog 90 #[.agg #[.int .i64 r, .int .i64 c, .slice (some ⟨b, o, none⟩) n cp]] w fun e w' => ∃ v', e = .returned (.agg #[.int .i64 r, .int .i64 c, v']) ∧ Own w' w.heap.size v' xs ∧ Below w.heap.size w w' := by
  have HR := Lib.hid (hr.more hB)
  clear hr
  have hX0 : ((w.alloc (.cells #[.int .i64 r, .int .i64 c, .slice (some ⟨b, o, none⟩) n cp] 37)).alloc (.cells #[.int .i64 0, .int .i64 0, .slice none 0 0] 37)).heap[w.heap.size]? = some (.cells #[.int .i64 r, .int .i64 c, .slice (some ⟨b, o, none⟩) n cp] 37 (0, 0)) := by (repeat (first | (with_reducible exact heap_alloc_new _ _) | (rw [heap_drew1]) | (rw [heap_drewN1]) | (rw [Below.heap_setCell _ _ _ _ (by first | omega | (simp; done) | (simp; omega))]) | (rw [Below.heap_alloc _ _ _ (by first | omega | (simp; done) | (simp; omega))]) | (exact heap_alloc_at (by first | omega | (simp; done) | (simp; omega)))))
  have hZ0 : ((w.alloc (.cells #[.int .i64 r, .int .i64 c, .slice (some ⟨b, o, none⟩) n cp] 37)).alloc (.cells #[.int .i64 0, .int .i64 0, .slice none 0 0] 37)).heap[w.heap.size + 1]? = some (.cells #[.int .i64 0, .int .i64 0, .slice none 0 0] 37 (0, 0)) := by (repeat (first | (with_reducible exact heap_alloc_new _ _) | (rw [heap_drew1]) | (rw [heap_drewN1]) | (rw [Below.heap_setCell _ _ _ _ (by first | omega | (simp; done) | (simp; omega))]) | (rw [Below.heap_alloc _ _ _ (by first | omega | (simp; done) | (simp; omega))]) | (exact heap_alloc_at (by first | omega | (simp; done) | (simp; omega)))))
  have HX0 := Lib.hid hX0
  have HZ0 := Lib.hid hZ0
  clear hX0 hZ0
  have n01 : w.heap.size ≠ w.heap.size + 1 := by omega
  go_enter Try.func90, Try.ntmps90
  go_wp2_with fail
  obtain ⟨y0, y1, y2, -⟩ := blk3 HX0.out
  go_region_held3 (fun w' => w'.cell? ⟨w.heap.size, 0, none⟩ = some (.int .i64 r) ∧ w'.cell? ⟨w.heap.size, 1, none⟩ = some (.int .i64 c) ∧ w'.cell? ⟨w.heap.size, 2, none⟩ = some (.slice (some ⟨b, o, none⟩) n cp))
    (first | (exact ⟨y0, y1, y2⟩) | (exact ⟨q0, q1, q2⟩) | (obtain ⟨q0, q1, q2, -⟩ := blk3 (blk_other (c := w.heap.size + 1) (k := 2) (u := .slice A1 xs.length c1) (blk_other (c := w.heap.size + 1) (k := 1) (u := .int .i64 c) (blk_other (c := w.heap.size + 1) (k := 0) (u := .int .i64 r) HX1.out n01) n01) n01); exact ⟨q0, q1, q2⟩) | go_keep)
    (((go_at_call 117; go_call (copyOf_any b o n cp xs _ _ (HR.out.below (by (repeat (first | (with_reducible assumption) | (with_reducible exact Below.refl _ _) | (with_reducible refine below_drewN' ?_ _) | (with_reducible refine Below.drew ?_) | ((with_reducible refine Below.alloc ?_ ?_ _); rotate_left; focus (first | (simp; done) | (simp; omega) | omega)) | ((with_reducible refine Below.setCell ?_ ?_ _); rotate_left; focus (first | (simp; done) | (simp; omega) | omega)))))) hn0 hn) as e1 w1 ⟨v1, rfl, ho1, hb1⟩; obtain ⟨hc1, hf1⟩ := bcell hb1; have hB1 : Below w.heap.size w w1 := (below_then (by first | (go_grown; done) | (repeat (first | (with_reducible assumption) | (with_reducible exact Below.refl _ _) | (with_reducible refine below_drewN' ?_ _) | (with_reducible refine Below.drew ?_) | ((with_reducible refine Below.alloc ?_ ?_ _); rotate_left; focus (first | (simp; done) | (simp; omega) | omega)) | ((with_reducible refine Below.setCell ?_ ?_ _); rotate_left; focus (first | (simp; done) | (simp; omega) | omega))))) (by first | omega | (simp; done) | (simp; omega)) hb1); have hz1a : w.heap.size < w1.heap.size := (by have := hb1.size; first | omega | (simp at this; omega)); have hz1b : w.heap.size + 1 < w1.heap.size := (by have := hb1.size; first | omega | (simp at this; omega)))
      obtain ⟨A1, c1, rfl, -⟩ := ho1.shape
      have HX1 := Lib.hid (blk_below (o := some (.cells #[.int .i64 r, .int .i64 c, .slice (some ⟨b, o, none⟩) n cp] 37 (0, 0))) (by (repeat (first | (with_reducible exact HX0.out) | (with_reducible exact heap_alloc_new _ _) | (rw [heap_drew1]) | (rw [heap_drewN1]) | (rw [Below.heap_setCell _ _ _ _ (by first | omega | (simp; done) | (simp; omega))]) | (rw [Below.heap_alloc _ _ _ (by first | omega | (simp; done) | (simp; omega))]) | (exact heap_alloc_at (by first | omega | (simp; done) | (simp; omega)))))) hb1 (by simp; omega))
      have HZ1 := Lib.hid (blk_below (o := some (.cells #[.int .i64 0, .int .i64 0, .slice none 0 0] 37 (0, 0))) (by (repeat (first | (with_reducible exact HZ0.out) | (with_reducible exact heap_alloc_new _ _) | (rw [heap_drew1]) | (rw [heap_drewN1]) | (rw [Below.heap_setCell _ _ _ _ (by first | omega | (simp; done) | (simp; omega))]) | (rw [Below.heap_alloc _ _ _ (by first | omega | (simp; done) | (simp; omega))]) | (exact heap_alloc_at (by first | omega | (simp; done) | (simp; omega)))))) hb1 (by simp))
      obtain ⟨q0, q1, q2, -⟩ := blk3 HX1.out
      obtain ⟨z0, z1, z2, zf⟩ := blk3 HZ1.out))
  go_wp2_with fail
  obtain ⟨s0, s1, s2⟩ := res3 HZ1.out (.int .i64 r) (.int .i64 c) (.slice A1 xs.length c1)
  have HO := Lib.hid (ho1.more (B' := w.heap.size + 1 + 1) (by simp))
  (try simp only [Exit.inBlock, Exit.then]); refine bodyPost_ret (by simp [results, Try.results90, go_sem, s0, s1, s2]; try rfl) rfl ?_
  exact ⟨_, rfl, ((((HO.out.setLt (p := ⟨w.heap.size + 1, 0, none⟩) (Nat.lt_succ_self _) _).setLt (p := ⟨w.heap.size + 1, 1, none⟩) (Nat.lt_succ_self _) _).setLt (p := ⟨w.heap.size + 1, 2, none⟩) (Nat.lt_succ_self _) _)).more (by omega),
    ((hB1.setCell (Nat.le_succ _) _).setCell (Nat.le_succ _) _).setCell (Nat.le_succ _) _⟩
end Go.Proofs.Yteghpageamehkaa
namespace Go.Proofs.Yteghpageamehkaa
set_option linter.unusedSimpArgs false
open Go.RowKit

/-- The cells of a grid of size N with the first i of the places masked. -/
def mskL (N m : Nat) (ps : List (Int × Int)) (xs : List Int) : Nat → List Int
  | 0 => xs
  | i + 1 => if decide (0 ≤ nth (mskL N m ps xs i) (idxP N (nthP ps i))) && turnB m (nthP ps i).1.toNat (nthP ps i).2.toNat
      then (mskL N m ps xs i).set (idxP N (nthP ps i)) (1 - nth (mskL N m ps xs i) (idxP N (nthP ps i))) else mskL N m ps xs i
theorem mskL_len (N m : Nat) (ps : List (Int × Int)) (xs : List Int) : ∀ i, (mskL N m ps xs i).length = xs.length := by
  intro i
  induction i with
  | zero => rfl
  | succ i ih => simp only [mskL]; split <;> simp [ih]
theorem allIn_iff {lo hi : Int} {xs : List Int} : allIn lo hi xs = true ↔ ∀ x ∈ xs, lo ≤ x ∧ x ≤ hi := by
  unfold allIn
  rw [List.all_eq_true]
  exact ⟨fun h x hx => inR_true (h x hx), fun h x hx => by have := h x hx; simp [inR]; omega⟩
theorem mskL_in {N m : Nat} {ps : List (Int × Int)} {xs : List Int} (hx : allIn (-1) 1 xs = true) (hl : xs.length = N * N) (hin : ∀ p ∈ ps, 0 ≤ p.1 ∧ 0 ≤ p.2 ∧ p.1 < N ∧ p.2 < N) : ∀ i, i ≤ ps.length → allIn (-1) 1 (mskL N m ps xs i) = true := by
  intro i
  induction i with
  | zero => intro _; exact hx
  | succ i ih =>
    intro hi
    have ih' := ih (by omega)
    simp only [mskL]
    split
    · rename_i hc
      simp only [Bool.and_eq_true, decide_eq_true_eq] at hc
      have hb := allIn_nth ih' (k := idxP N (nthP ps i)) (by rw [mskL_len, hl]; exact (idxP_lt (hin _ (nthP_mem (by omega)))).1)
      rw [allIn_iff] at ih' ⊢
      intro x hx
      rcases List.mem_or_eq_of_mem_set hx with h | rfl
      · exact ih' x h
      · omega
    · exact ih'
theorem mskL_step {N m i R C K : Nat} {ps : List (Int × Int)} {xs cur : List Int} {x : Int} (hp : nthP ps i = ((R : Int), (C : Int))) (hcur : mskL N m ps xs i = cur) (hK : idxP N ((R : Int), (C : Int)) = K) (hx : nth cur K = x) :
    mskL N m ps xs (i + 1) = if decide (0 ≤ x) && turnB m R C then cur.set K (1 - x) else cur := by
  simp only [mskL, hp, hcur, hK, hx, Int.toNat_natCast]
theorem condF_enter {m : Nat} (hm : m < 8) : ∀ (args : Array Value) (w : World), (callFunc (condF m) args).run Try.prog w = .ok (.enter (condF m) args) w := by
  match m, hm with
  | 0, _ => intro args w; kernel_rfl
  | 1, _ => intro args w; kernel_rfl
  | 2, _ => intro args w; kernel_rfl
  | 3, _ => intro args w; kernel_rfl
  | 4, _ => intro args w; kernel_rfl
  | 5, _ => intro args w; kernel_rfl
  | 6, _ => intro args w; kernel_rfl
  | 7, _ => intro args w; kernel_rfl
  | k + 8, h => omega
set_option maxRecDepth 20000 in
set_option maxHeartbeats 4000000 in
theorem masked_any (N m b o cp : Nat) (xs : List Int) (w : World) (B : Nat) (hN : 17 ≤ N ∧ N ≤ 41 ∧ N % 4 = 1) (hm : m < 8) (hr : RI w B (some ⟨b, o, none⟩) (N * N) xs) (hB : B ≤ w.heap.size) (hl : xs.length = N * N) (hal : allIn (-1) 1 xs = true) :
    Calls Try.prog 76 #[.agg #[.int .i64 N, .int .i64 N, .slice (some ⟨b, o, none⟩) (N * N) cp], .int .i64 m] w fun e w' =>
      ∃ u, e = .returned (.agg #[.int .i64 N, .int .i64 N, u]) ∧ Own w' w.heap.size u (mskL N m (dataL N) xs (dataL N).length) ∧ Below w.heap.size w w' := by
  have hX0 : ((w.alloc (.cells #[.int .i64 (N : Int), .int .i64 (N : Int), .slice (some ⟨b, o, none⟩) (N * N) cp] 37)).alloc (.cells #[.int .i64 0, .int .i64 0, .slice none 0 0] 37)).heap[w.heap.size]? = some (.cells #[.int .i64 (N : Int), .int .i64 (N : Int), .slice (some ⟨b, o, none⟩) (N * N) cp] 37 (0, 0)) := by (repeat (first | (with_reducible exact heap_alloc_new _ _) | (rw [heap_drew1]) | (rw [heap_drewN1]) | (rw [Below.heap_setCell _ _ _ _ (by first | omega | (simp; done) | (simp; omega))]) | (rw [Below.heap_alloc _ _ _ (by first | omega | (simp; done) | (simp; omega))]) | (exact heap_alloc_at (by first | omega | (simp; done) | (simp; omega)))))
  have hZ0 : ((w.alloc (.cells #[.int .i64 (N : Int), .int .i64 (N : Int), .slice (some ⟨b, o, none⟩) (N * N) cp] 37)).alloc (.cells #[.int .i64 0, .int .i64 0, .slice none 0 0] 37)).heap[w.heap.size + 1]? = some (.cells #[.int .i64 0, .int .i64 0, .slice none 0 0] 37 (0, 0)) := by (repeat (first | (with_reducible exact heap_alloc_new _ _) | (rw [heap_drew1]) | (rw [heap_drewN1]) | (rw [Below.heap_setCell _ _ _ _ (by first | omega | (simp; done) | (simp; omega))]) | (rw [Below.heap_alloc _ _ _ (by first | omega | (simp; done) | (simp; omega))]) | (exact heap_alloc_at (by first | omega | (simp; done) | (simp; omega)))))
  have HX0 := Lib.hid hX0
  have HZ0 := Lib.hid hZ0
  have HR0 := Lib.hid (((hr.more hB).alloc (Nat.le_refl _) (.cells #[.int .i64 (N : Int), .int .i64 (N : Int), .slice (some ⟨b, o, none⟩) (N * N) cp] 37)).alloc (by simp) (.cells #[.int .i64 0, .int .i64 0, .slice none 0 0] 37))
  have hN1 := hN.1
  have hN2 := hN.2.1
  have hNN : N * N ≤ 1681 := Nat.mul_le_mul hN2 hN2
  have hN0 : 0 < N * N := Nat.mul_pos (by omega) (by omega)
  have HD := Lib.hid (fun w => dataPlaces_any N w hN)
  have HIN := Lib.hid (data_in4 hN)
  have HML := Lib.hid (fun i => (mskL_len N m (dataL N) xs i).trans hl)
  have HMI := Lib.hid (mskL_in (m := m) hal hl (data_in4 hN))
  have hMx : (dataL N).length ≤ 1640 := dataL_le hN2
  have HCF := Lib.hid (fun (r c : Nat) (w : World) (hr : r ≤ 41) (hc : c ≤ 41) => cond_any m r c w hm hr hc)
  have hFm := Lib.hid (fun (f : Int → Int) (h : ∀ m : Nat, m < 8 → f m = condF m) => h m hm)
  have hm64 := Lib.hid (show I64 (m : Int) by unfold I64; omega)
  have HL := Lib.hid hl
  obtain ⟨ps, hps⟩ : ∃ ps, dataL N = ps := ⟨_, rfl⟩
  have hEN := condF_enter hm
  obtain ⟨F, hF⟩ : ∃ F, condF m = F := ⟨_, rfl⟩
  rw [hps] at HIN HML HMI hMx ⊢
  rw [hF] at HCF hFm hEN
  have HD : Hid (∀ w, Calls Try.prog 54 #[.int .i64 N] w fun e w' => ∃ v, e = .returned v ∧ OwnP w' w.heap.size v ps ∧ Below w.heap.size w w') := Lib.hid (by rw [← hps]; exact HD.out)
  obtain ⟨M, hMM⟩ : ∃ M, ps.length = M := ⟨_, rfl⟩
  rw [hMM] at hMx HMI ⊢
  have HLP := Lib.hid hMM
  clear hps hF hMM hX0 hZ0 hr hal hN hl
  go_enter Try.func76, Try.ntmps76
  go_wp2_with fail
  (go_at_call 90; go_call (gridCopy_any N N b o (N * N) cp xs _ w.heap.size HR0.out (by simp; omega) hN0 (by omega)) as e1 w1 ⟨v1, rfl, ho1, hb1⟩; obtain ⟨hc1, hf1⟩ := bcell hb1; have hB1 : Below w.heap.size w w1 := (below_then (by first | (go_grown; done) | (repeat (first | (with_reducible assumption) | (with_reducible exact Below.refl _ _) | (with_reducible refine below_drewN' ?_ _) | (with_reducible refine Below.drew ?_) | ((with_reducible refine Below.alloc ?_ ?_ _); rotate_left; focus (first | (simp; done) | (simp; omega) | omega)) | ((with_reducible refine Below.setCell ?_ ?_ _); rotate_left; focus (first | (simp; done) | (simp; omega) | omega))))) (by first | omega | (simp; done) | (simp; omega)) hb1); have hz1a : w.heap.size < w1.heap.size := (by have := hb1.size; first | omega | (simp at this; omega)); have hz1b : w.heap.size + 1 < w1.heap.size := (by have := hb1.size; first | omega | (simp at this; omega)))
  have hs1 := hb1.size
  simp only [World.size_alloc] at hs1
  obtain ⟨h, cp2, rfl, hhB, hhw, -, -⟩ := ho1.row (by rw [HL.out]; exact hN0)
  simp only [World.size_alloc] at hhB
  rw [HL.out] at ho1 ⊢
  have HZ1 := Lib.hid (blk_below HZ0.out hb1 (by simp))
  have HX1 := Lib.hid (blk_below HX0.out hb1 (by simp; omega))
  have HO1 := Lib.hid (ho1.more (B' := w.heap.size + 1 + 1) (by simp))
  have HB1 := Lib.hid hB1
  clear hc1 hf1 ho1 hb1
  obtain ⟨y0, y1, y2, -⟩ := blk3 HX1.out
  go_wp2_with fail
  (go_at_call 79; go_call (conditions_any _) as e2 w2 ⟨f, rfl, hM2, hf2x, hb2⟩; obtain ⟨hc2, hf2⟩ := bcell hb2; have hB2 : Below w.heap.size w w2 := (below_then (by first | (go_grown; done) | (repeat (first | (with_reducible assumption) | (with_reducible exact Below.refl _ _) | (with_reducible refine below_drewN' ?_ _) | (with_reducible refine Below.drew ?_) | ((with_reducible refine Below.alloc ?_ ?_ _); rotate_left; focus (first | (simp; done) | (simp; omega) | omega)) | ((with_reducible refine Below.setCell ?_ ?_ _); rotate_left; focus (first | (simp; done) | (simp; omega) | omega))))) (by first | omega | (simp; done) | (simp; omega)) hb2); have hz2a : w.heap.size < w2.heap.size := (by have := hb2.size; first | omega | (simp at this; omega)); have hz2b : w.heap.size + 1 < w2.heap.size := (by have := hb2.size; first | omega | (simp at this; omega)); have hz2c : w1.heap.size < w2.heap.size := (by have := hb2.size; first | omega | (simp at this; omega)))
  have hs2 := hb2.size
  simp only [World.size_alloc] at hs2
  have hlk := hM2.look hm64.out (hFm.out f hf2x)
  simp only [World.size_alloc] at hlk
  have HZ2 := Lib.hid (show w2.heap[w.heap.size + 1]? = some (.cells #[.int .i64 0, .int .i64 0, .slice none 0 0] 37 (0, 0)) from (hb2.block (w.heap.size + 1) (by simp; omega)).trans (by (repeat (first | (with_reducible exact HZ1.out) | (with_reducible exact heap_alloc_new _ _) | (rw [heap_drew1]) | (rw [heap_drewN1]) | (rw [Below.heap_setCell _ _ _ _ (by first | omega | (simp; done) | (simp; omega))]) | (rw [Below.heap_alloc _ _ _ (by first | omega | (simp; done) | (simp; omega))]) | (exact heap_alloc_at (by first | omega | (simp; done) | (simp; omega)))))))
  have HX2 := Lib.hid (show w2.heap[w.heap.size]? = some (.cells #[.int .i64 (N : Int), .int .i64 (N : Int), .slice (some ⟨b, o, none⟩) (N * N) cp] 37 (0, 0)) from (hb2.block w.heap.size (by simp; omega)).trans (by (repeat (first | (with_reducible exact HX1.out) | (with_reducible exact heap_alloc_new _ _) | (rw [heap_drew1]) | (rw [heap_drewN1]) | (rw [Below.heap_setCell _ _ _ _ (by first | omega | (simp; done) | (simp; omega))]) | (rw [Below.heap_alloc _ _ _ (by first | omega | (simp; done) | (simp; omega))]) | (exact heap_alloc_at (by first | omega | (simp; done) | (simp; omega)))))))
  have HY2 := Lib.hid (blk_below (heap_alloc_new w1 (.cells #[.int .i64 (N : Int), .int .i64 (N : Int), .slice (some ⟨h, 0, none⟩) (N * N) cp2] 37)) hb2 (by simp))
  have HO2 := Lib.hid ((HO1.out.keep ((Below.refl _ _).alloc (Nat.le_refl _) (.cells #[.int .i64 (N : Int), .int .i64 (N : Int), .slice (some ⟨h, 0, none⟩) (N * N) cp2] 37))).keep hb2)
  have HB2 := Lib.hid hB2
  clear hc2 hf2 hM2 hf2x hb2 hFm hm64 y0 y1 y2 hB1
  obtain ⟨y0, y1, y2, -⟩ := blk3 HX2.out
  go_wp2_with fail
  (go_at_call 54; with_reducible refine (HD.out _).mono ?_; rintro e3 w3 ⟨v3, rfl, ho3, hb3⟩; obtain ⟨hc3, hf3⟩ := bcell hb3; have hB3 : Below w.heap.size w w3 := (below_then (by first | (go_grown; done) | (repeat (first | (with_reducible assumption) | (with_reducible exact Below.refl _ _) | (with_reducible refine below_drewN' ?_ _) | (with_reducible refine Below.drew ?_) | ((with_reducible refine Below.alloc ?_ ?_ _); rotate_left; focus (first | (simp; done) | (simp; omega) | omega)) | ((with_reducible refine Below.setCell ?_ ?_ _); rotate_left; focus (first | (simp; done) | (simp; omega) | omega))))) (by first | omega | (simp; done) | (simp; omega)) hb3))
  have hs3 := hb3.size
  obtain ⟨A3, c3, rfl⟩ := ho3.shape0
  rw [HLP.out] at ⊢
  have HPL := Lib.hid ho3
  have HZ3 := Lib.hid (blk_below HZ2.out hb3 (by omega))
  have HY3 := Lib.hid (blk_below HY2.out hb3 (by omega))
  have HO3 := Lib.hid (HO2.out.keep hb3)
  have HB3 := Lib.hid hB3
  clear hc3 hf3 ho3 hb3 hlk y0 y1 y2 hB2 hB3 HZ2 HX2 HX1 HZ1 HX0 HZ0 HY2
  go_wp2_with fail
  go_loopw [8, 9, 19] (fun q1 q2 q wr => ∃ i : Nat, i ≤ M ∧ q = .int .i64 i ∧ Hid (Own wr (w.heap.size + 1 + 1) (.slice (some ⟨h, 0, none⟩) (N * N) cp2) (mskL N m ps xs i)) ∧ Hid (w3.grownBy wr (some h)))
    (fun _ _ q _ => M - (intOf q).toNat)
  case atStart => exact ⟨0, Nat.zero_le _, rfl, HO3, Lib.hid (World.grownBy.refl _ _)⟩
  case round =>
    obtain ⟨i, hi, rfl, hown, hgr⟩ := hrel
    have hsr := hgr.out.size
    obtain ⟨y0, y1, y2, -⟩ := blk3 ((hgr.out.block w1.heap.size (by omega) (fun e => by have : w1.heap.size = h := Option.some.inj e; omega)).trans HY3.out)
    by_cases hlt : i < M
    · have hk2 : i < ps.length := by rw [HLP.out]; exact hlt
      obtain ⟨gp, cq, e, hgpB, hgpw, -⟩ := HPL.out.cells (by omega)
      simp only [Value.slice.injEq] at e
      obtain ⟨rfl, -, rfl⟩ := e
      have hpl := HPL.out
      rw [HLP.out] at hpl
      obtain ⟨p0, p1⟩ := OwnP.cellsNe hpl HLP.out (by omega) hgr.out (fun e => by have : gp = h := Option.some.inj e; omega) i hlt
      have hpin := HIN.out _ (nthP_mem hk2)
      obtain ⟨p, hp⟩ : ∃ p, nthP ps i = p := ⟨_, rfl⟩
      rw [hp] at p0 p1 hpin
      obtain ⟨pr, pc⟩ := p
      simp only at p0 p1 hpin
      obtain ⟨R, rfl⟩ := Int.eq_ofNat_of_zero_le hpin.1
      obtain ⟨C, rfl⟩ := Int.eq_ofNat_of_zero_le hpin.2.1
      have hR : R ≤ 41 := by omega
      have hC : C ≤ 41 := by omega
      have hK0 : R * N + C < N * N := cell_lt (by omega) (by omega)
      obtain ⟨cur, hcur⟩ : ∃ cur, mskL N m ps xs i = cur := ⟨_, rfl⟩
      have hcl := HML.out i
      have hci := HMI.out i hi
      rw [hcur] at hown hcl hci
      obtain ⟨K, hK⟩ : ∃ K, R * N + C = K := ⟨_, rfl⟩
      rw [hK] at hK0
      obtain ⟨x, hx⟩ : ∃ x, nth cur K = x := ⟨_, rfl⟩
      have hxb := allIn_nth hci (k := K) (by rw [hcl]; exact hK0)
      rw [hx] at hxb
      have hst := Lib.hid (mskL_step (m := m) hp hcur (show idxP N ((R : Int), (C : Int)) = K by unfold idxP; simp only; rw [show ((R : Int) * N + C) = ((R * N + C : Nat) : Int) by simp, Int.toNat_natCast, hK]) hx)
      have hKi : (R : Int) * N + C = (K : Int) := by rw [← hK]; simp
      have HX := Lib.hid hx
      have HCL := Lib.hid hcl
      obtain ⟨A4, c4, e4, hr4⟩ := hown.out.shape
      simp only [Value.slice.injEq] at e4
      obtain ⟨rfl, -, rfl⟩ := e4
      rw [HCL.out] at hr4
      have HR4 := Lib.hid hr4
      have hwz : w1.heap.size < wr.heap.size := by omega
      have hhz : h < wr.heap.size := by omega
      have hgz : gp < wr.heap.size := by omega
      clear hp hcur hK hx hcl hci hpin hpl hr4 hk2
      go_wp2_with fail
      (go_at_call 91; with_reducible refine (at_any N N R C h 0 cp2 (N * N) K cur _ wr.heap.size (HR4.out.alloc (Nat.le_refl _) _) (by simp) (by omega) hKi hK0 ⟨by omega, by omega⟩).mono ?_; rintro e5 w5 ⟨rfl, hb5⟩; obtain ⟨hc5, hf5⟩ := bcell hb5)
      rw [HX.out]
      have hs5 := hb5.size
      simp only [World.size_alloc] at hs5
      have HO5 := Lib.hid ((hown.out.keep ((Below.refl wr.heap.size wr).alloc (Nat.le_refl _) (.cells #[.int .i64 (R : Int), .int .i64 (C : Int)] 32))).keep hb5)
      have HG5 := Lib.hid (grown_b (grown_alloc hgr.out (.cells #[.int .i64 (R : Int), .int .i64 (C : Int)] 32)) hb5)
      have q0 : w5.cell? ⟨wr.heap.size, 0, none⟩ = some (.int .i64 (R : Int)) := (hc5 _ _ (by simp)).trans (by go_simp)
      have q1 : w5.cell? ⟨wr.heap.size, 1, none⟩ = some (.int .i64 (C : Int)) := (hc5 _ _ (by simp)).trans (by go_simp)
      have z0 : w5.cell? ⟨w1.heap.size, 0, none⟩ = some (.int .i64 (N : Int)) := (hc5 _ _ (by simp; omega)).trans (by go_simp)
      have z1 : w5.cell? ⟨w1.heap.size, 1, none⟩ = some (.int .i64 (N : Int)) := (hc5 _ _ (by simp; omega)).trans (by go_simp)
      have z2 : w5.cell? ⟨w1.heap.size, 2, none⟩ = some (.slice (some ⟨h, 0, none⟩) (N * N) cp2) := (hc5 _ _ (by simp; omega)).trans (by go_simp)
      clear hc5 hf5 hb5 y0 y1 y2 p0 p1 HX
      by_cases hx0 : 0 ≤ x
      · have HT := Lib.hid (fun w => HCF.out R C w hR hC)
        cases ht : turnB m R C
        · rw [ht] at HT
          have hst2 : Hid (mskL N m ps xs (i + 1) = cur) := Lib.hid (by rw [hst.out, ht]; simp)
          go_wp2_with (with_reducible refine (HT.out _).mono ?_; rintro e6 w6 ⟨rfl, rfl⟩)
          go_roundw
          case rel => exact ⟨i + 1, by omega, by go_num, by rw [hst2.out]; exact HO5, HG5⟩
          case measure => simp [intOf]; omega
        · rw [ht] at HT
          have hst2 : Hid (mskL N m ps xs (i + 1) = cur.set K (1 - x)) := Lib.hid (by rw [hst.out, ht]; simp [hx0])
          go_wp2_with first | (with_reducible refine (HT.out _).mono ?_; rintro e6 w6 ⟨rfl, rfl⟩) | (go_at_call 64; with_reducible refine (set_any (N : Int) N R C (1 - x) h cp2 (N * N) K _ _ (w.heap.size + 1 + 1) HO5.out HCL.out (by omega) hKi hK0 ⟨by omega, by omega⟩ (by omega)).mono ?_; rintro e7 w7 ⟨rfl, ho7, hg7⟩)
          have HO7 := Lib.hid ho7
          have HG7 := Lib.hid (grown_t HG5.out hg7)
          clear ho7 hg7
          go_roundw
          case rel => exact ⟨i + 1, by omega, by go_num, by rw [hst2.out]; exact HO7, HG7⟩
          case measure => simp [intOf]; omega
      · have hx0' : decide (0 ≤ x) = false := decide_eq_false hx0
        have hst2 : Hid (mskL N m ps xs (i + 1) = cur) := Lib.hid (by rw [hst.out, hx0']; simp)
        go_wp2_with fail
        go_roundw
        case rel => exact ⟨i + 1, by omega, by go_num, by rw [hst2.out]; exact HO5, HG5⟩
        case measure => simp [intOf]; omega
    · obtain rfl : i = M := by omega
      have HZr := Lib.hid ((hgr.out.block (w.heap.size + 1) (by omega) (fun e => by have : w.heap.size + 1 = h := Option.some.inj e; omega)).trans HZ3.out)
      obtain ⟨z0, z1, z2, zf⟩ := blk3 HZr.out
      obtain ⟨s0, s1, s2⟩ := res3 HZr.out (.int .i64 (N : Int)) (.int .i64 (N : Int)) (.slice (some ⟨h, 0, none⟩) (N * N) cp2)
      have HBr : Hid (Below w.heap.size w wr) := Lib.hid (HB3.out.grown hgr.out (by omega) (fun k hk => by cases hk; omega))
      have HF := Lib.hid hown.out
      clear hgr hsr HZr
      go_wp2_with fail
      (try simp only [Exit.inBlock, Exit.then]); refine bodyPost_ret (by simp [results, Try.results76, go_sem, s0, s1, s2]; try rfl) rfl ?_
      exact ⟨_, rfl, ((((HF.out.setLt (p := ⟨w.heap.size + 1, 0, none⟩) (Nat.lt_succ_self _) _).setLt (p := ⟨w.heap.size + 1, 1, none⟩) (Nat.lt_succ_self _) _).setLt (p := ⟨w.heap.size + 1, 2, none⟩) (Nat.lt_succ_self _) _)).more (by omega),
        ((HBr.out.setCell (Nat.le_succ _) _).setCell (Nat.le_succ _) _).setCell (Nat.le_succ _) _⟩
set_option maxRecDepth 20000 in
set_option maxHeartbeats 4000000 in
theorem l16Apply_any (N m b o cp : Nat) (xs : List Int) (w : World) (B : Nat) (hN : 17 ≤ N ∧ N ≤ 41 ∧ N % 4 = 1) (hm : m < 8) (hr : RI w B (some ⟨b, o, none⟩) (N * N) xs) (hB : B ≤ w.heap.size) (hl : xs.length = N * N) (hal : allIn (-1) 1 xs = true) :
    Calls Try.prog 75 #[.agg #[.int .i64 N, .int .i64 N, .slice (some ⟨b, o, none⟩) (N * N) cp], .int .i64 m] w fun e w' =>
      ∃ u, e = .returned (.agg #[.int .i64 N, .int .i64 N, u]) ∧ Own w' w.heap.size u (mskL N m (dataL N) xs (dataL N).length) ∧ Below w.heap.size w w' := by
  have hX0 : ((w.alloc (.cells #[.int .i64 (N : Int), .int .i64 (N : Int), .slice (some ⟨b, o, none⟩) (N * N) cp] 37)).alloc (.cells #[.int .i64 0, .int .i64 0, .slice none 0 0] 37)).heap[w.heap.size]? = some (.cells #[.int .i64 (N : Int), .int .i64 (N : Int), .slice (some ⟨b, o, none⟩) (N * N) cp] 37 (0, 0)) := by (repeat (first | (with_reducible exact heap_alloc_new _ _) | (rw [heap_drew1]) | (rw [heap_drewN1]) | (rw [Below.heap_setCell _ _ _ _ (by first | omega | (simp; done) | (simp; omega))]) | (rw [Below.heap_alloc _ _ _ (by first | omega | (simp; done) | (simp; omega))]) | (exact heap_alloc_at (by first | omega | (simp; done) | (simp; omega)))))
  have hZ0 : ((w.alloc (.cells #[.int .i64 (N : Int), .int .i64 (N : Int), .slice (some ⟨b, o, none⟩) (N * N) cp] 37)).alloc (.cells #[.int .i64 0, .int .i64 0, .slice none 0 0] 37)).heap[w.heap.size + 1]? = some (.cells #[.int .i64 0, .int .i64 0, .slice none 0 0] 37 (0, 0)) := by (repeat (first | (with_reducible exact heap_alloc_new _ _) | (rw [heap_drew1]) | (rw [heap_drewN1]) | (rw [Below.heap_setCell _ _ _ _ (by first | omega | (simp; done) | (simp; omega))]) | (rw [Below.heap_alloc _ _ _ (by first | omega | (simp; done) | (simp; omega))]) | (exact heap_alloc_at (by first | omega | (simp; done) | (simp; omega)))))
  have HX0 := Lib.hid hX0
  have HZ0 := Lib.hid hZ0
  have HR0 := Lib.hid (((hr.more hB).alloc (Nat.le_refl _) (.cells #[.int .i64 (N : Int), .int .i64 (N : Int), .slice (some ⟨b, o, none⟩) (N * N) cp] 37)).alloc (by simp) (.cells #[.int .i64 0, .int .i64 0, .slice none 0 0] 37))
  have hN1 := hN.1
  have hN2 := hN.2.1
  have hNN : N * N ≤ 1681 := Nat.mul_le_mul hN2 hN2
  have hN0 : 0 < N * N := Nat.mul_pos (by omega) (by omega)
  have HD := Lib.hid (fun w => l15Places_any N w hN)
  have HIN := Lib.hid (data_in4 hN)
  have HML := Lib.hid (fun i => (mskL_len N m (dataL N) xs i).trans hl)
  have HMI := Lib.hid (mskL_in (m := m) hal hl (data_in4 hN))
  have hMx : (dataL N).length ≤ 1640 := dataL_le hN2
  have HCF := Lib.hid (fun (r c : Nat) (w : World) (hr : r ≤ 41) (hc : c ≤ 41) => l16Turns_any m r c w hm hr hc)
  have HL := Lib.hid hl
  obtain ⟨ps, hps⟩ : ∃ ps, dataL N = ps := ⟨_, rfl⟩
  rw [hps] at HIN HML HMI hMx ⊢
  have HD : Hid (∀ w, Calls Try.prog 59 #[.int .i64 N] w fun e w' => ∃ v, e = .returned v ∧ OwnP w' w.heap.size v ps ∧ Below w.heap.size w w') := Lib.hid (by rw [← hps]; exact HD.out)
  obtain ⟨M, hMM⟩ : ∃ M, ps.length = M := ⟨_, rfl⟩
  rw [hMM] at hMx HMI ⊢
  have HLP := Lib.hid hMM
  clear hps hMM hX0 hZ0 hr hal hN hl
  go_enter Try.func75, Try.ntmps75
  obtain ⟨y0, y1, y2, -⟩ := blk3 HX0.out
  go_wp2_with fail
  (go_at_call 83; go_call (l01Own_any b o (N * N) cp xs _ w.heap.size HR0.out hN0 (by omega)) as e1 w1 ⟨v1, rfl, ho1, hb1⟩; obtain ⟨hc1, hf1⟩ := bcell hb1; have hB1 : Below w.heap.size w w1 := (below_then (by first | (go_grown; done) | (repeat (first | (with_reducible assumption) | (with_reducible exact Below.refl _ _) | (with_reducible refine below_drewN' ?_ _) | (with_reducible refine Below.drew ?_) | ((with_reducible refine Below.alloc ?_ ?_ _); rotate_left; focus (first | (simp; done) | (simp; omega) | omega)) | ((with_reducible refine Below.setCell ?_ ?_ _); rotate_left; focus (first | (simp; done) | (simp; omega) | omega))))) (by first | omega | (simp; done) | (simp; omega)) hb1); have hz1a : w.heap.size < w1.heap.size := (by have := hb1.size; first | omega | (simp at this; omega)); have hz1b : w.heap.size + 1 < w1.heap.size := (by have := hb1.size; first | omega | (simp at this; omega)))
  have hs1 := hb1.size
  simp only [World.size_alloc] at hs1
  obtain ⟨h, cp2, rfl, hhB, hhw, -, -⟩ := ho1.row (by rw [HL.out]; exact hN0)
  simp only [World.size_alloc] at hhB
  rw [HL.out] at ho1 ⊢
  have HZ1 := Lib.hid (blk_below HZ0.out hb1 (by simp))
  have HX1 := Lib.hid (blk_below HX0.out hb1 (by simp; omega))
  have HO1 := Lib.hid (ho1.more (B' := w.heap.size + 1 + 1) (by simp))
  clear hc1 hf1 ho1 hb1 y0 y1 y2
  obtain ⟨y0, y1, y2, -⟩ := blk3 HX1.out
  go_wp2_with fail
  (go_at_call 59; with_reducible refine (HD.out _).mono ?_; rintro e3 w3 ⟨v3, rfl, ho3, hb3⟩; obtain ⟨hc3, hf3⟩ := bcell hb3; have hB3 : Below w.heap.size w w3 := (below_then (by first | (go_grown; done) | (repeat (first | (with_reducible assumption) | (with_reducible exact Below.refl _ _) | (with_reducible refine below_drewN' ?_ _) | (with_reducible refine Below.drew ?_) | ((with_reducible refine Below.alloc ?_ ?_ _); rotate_left; focus (first | (simp; done) | (simp; omega) | omega)) | ((with_reducible refine Below.setCell ?_ ?_ _); rotate_left; focus (first | (simp; done) | (simp; omega) | omega))))) (by first | omega | (simp; done) | (simp; omega)) hb3))
  have hs3 := hb3.size
  obtain ⟨A3, c3, rfl⟩ := ho3.shape0
  rw [HLP.out] at ⊢
  have HPL := Lib.hid ho3
  have HZ3 := Lib.hid (blk_below HZ1.out hb3 (by omega))
  have HX3 := Lib.hid (blk_below HX1.out hb3 (by omega))
  have HO3 := Lib.hid (HO1.out.keep hb3)
  have HB3 := Lib.hid hB3
  clear hc3 hf3 ho3 hb3 y0 y1 y2 hB3 HX1 HZ1 HX0 HZ0
  go_wp2_with fail
  go_loopw [7, 8] (fun q q2 wr => ∃ i : Nat, i ≤ M ∧ q = .int .i64 i ∧ Hid (Own wr (w.heap.size + 1 + 1) (.slice (some ⟨h, 0, none⟩) (N * N) cp2) (mskL N m ps xs i)) ∧ Hid (w3.grownBy wr (some h)))
    (fun q _ _ => M - (intOf q).toNat)
  case atStart => exact ⟨0, Nat.zero_le _, rfl, HO3, Lib.hid (World.grownBy.refl _ _)⟩
  case round =>
    obtain ⟨i, hi, rfl, hown, hgr⟩ := hrel
    have hsr := hgr.out.size
    obtain ⟨y0, y1, y2, -⟩ := blk3 ((hgr.out.block w.heap.size (by omega) (fun e => by have : w.heap.size = h := Option.some.inj e; omega)).trans HX3.out)
    by_cases hlt : i < M
    · have hk2 : i < ps.length := by rw [HLP.out]; exact hlt
      obtain ⟨gp, cq, e, hgpB, hgpw, -⟩ := HPL.out.cells (by omega)
      simp only [Value.slice.injEq] at e
      obtain ⟨rfl, -, rfl⟩ := e
      have hpl := HPL.out
      rw [HLP.out] at hpl
      obtain ⟨p0, p1⟩ := OwnP.cellsNe hpl HLP.out (by omega) hgr.out (fun e => by have : gp = h := Option.some.inj e; omega) i hlt
      have hpin := HIN.out _ (nthP_mem hk2)
      obtain ⟨p, hp⟩ : ∃ p, nthP ps i = p := ⟨_, rfl⟩
      rw [hp] at p0 p1 hpin
      obtain ⟨pr, pc⟩ := p
      simp only at p0 p1 hpin
      obtain ⟨R, rfl⟩ := Int.eq_ofNat_of_zero_le hpin.1
      obtain ⟨C, rfl⟩ := Int.eq_ofNat_of_zero_le hpin.2.1
      have hR : R ≤ 41 := by omega
      have hC : C ≤ 41 := by omega
      have hK0 : R * N + C < N * N := cell_lt (by omega) (by omega)
      obtain ⟨cur, hcur⟩ : ∃ cur, mskL N m ps xs i = cur := ⟨_, rfl⟩
      have hcl := HML.out i
      have hci := HMI.out i hi
      rw [hcur] at hown hcl hci
      obtain ⟨K, hK⟩ : ∃ K, R * N + C = K := ⟨_, rfl⟩
      rw [hK] at hK0
      obtain ⟨x, hx⟩ : ∃ x, nth cur K = x := ⟨_, rfl⟩
      have hxb := allIn_nth hci (k := K) (by rw [hcl]; exact hK0)
      rw [hx] at hxb
      have hst := Lib.hid (mskL_step (m := m) hp hcur (show idxP N ((R : Int), (C : Int)) = K by unfold idxP; simp only; rw [show ((R : Int) * N + C) = ((R * N + C : Nat) : Int) by simp, Int.toNat_natCast, hK]) hx)
      have hKi : (R : Int) * N + C = (K : Int) := by rw [← hK]; simp
      have uA : (R : Int) * N = K - C := by omega
      have wA1 : IntKind.i64.wrap ((R : Int) * N) = (R : Int) * N := i64_in (by omega)
      have wA2 : IntKind.i64.wrap ((R : Int) * N + C) = K := by rw [hKi]; exact i64_in (by omega)
      have wA3 : IntKind.i64.wrap (K : Int) = K := i64_in (by omega)
      have vA : (K : Int) < (N : Int) * N := by
        have : (K : Int) < ((N * N : Nat) : Int) := by omega
        simpa using this
      have HCL := Lib.hid hcl
      obtain ⟨g', c', e', hB', hg', hc', hf'⟩ := hown.out.row (by rw [HCL.out]; omega)
      obtain ⟨rfl, rfl⟩ : h = g' ∧ cp2 = c' := by
        simp only [Value.slice.injEq, Option.some.injEq, Addr.mk.injEq, and_true] at e'
        exact ⟨e'.1, e'.2.2⟩
      have hdk := hc' K (by rw [HCL.out]; exact hK0)
      have hfk := hf' K
      rw [hx] at hdk
      have hwz : w.heap.size < wr.heap.size := by omega
      have hhz : h < wr.heap.size := by omega
      have hgz : gp < wr.heap.size := by omega
      clear hp hcur hK hx hcl hci hpin hpl hk2 uA hc' hf' e'
      have HT := Lib.hid (fun w => HCF.out R C w hR hC)
      by_cases hx0 : 0 ≤ x
      · cases ht : turnB m R C
        · rw [ht] at HT
          have hst2 : Hid (mskL N m ps xs (i + 1) = cur) := Lib.hid (by rw [hst.out, ht]; simp)
          go_wp2_with fail
          go_quiet (fail)
          go_wp2_with fail
          go_quiet ((go_at_call 89; exact (HT.out _).mono (fun _ _ h => ⟨h.1, _, h.2.symm⟩)))
          go_wp2_with fail
          go_roundw
          case rel => exact ⟨i + 1, by omega, by go_num, by rw [hst2.out]; exact hown, Lib.hid (grown_drewN hgr.out _)⟩
          case measure => simp [intOf]; omega
        · rw [ht] at HT
          have hst2 : Hid (mskL N m ps xs (i + 1) = cur.set K (1 - x)) := Lib.hid (by rw [hst.out, ht]; simp [hx0])
          go_wp2_with fail
          go_quiet (fail)
          go_wp2_with fail
          go_quiet ((go_at_call 89; exact (HT.out _).mono (fun _ _ h => ⟨h.1, _, h.2.symm⟩)))
          go_wp2_with fail
          go_roundw
          case rel => exact ⟨i + 1, by omega, by go_num, by rw [hst2.out]; exact Lib.hid (Own.setn HCL.out hown.out), Lib.hid (grown_set (grown_drewN hgr.out _) _)⟩
          case measure => simp [intOf]; omega
      · have hx0' : decide (0 ≤ x) = false := decide_eq_false hx0
        have hst2 : Hid (mskL N m ps xs (i + 1) = cur) := Lib.hid (by rw [hst.out, hx0']; simp)
        go_wp2_with fail
        go_quiet (fail)
        go_wp2_with fail
        go_quiet (fail)
        go_wp2_with fail
        go_roundw
        case rel => exact ⟨i + 1, by omega, by go_num, by rw [hst2.out]; exact hown, Lib.hid (grown_drewN hgr.out _)⟩
        case measure => simp [intOf]; omega
    · obtain rfl : i = M := by omega
      have HZr := Lib.hid ((hgr.out.block (w.heap.size + 1) (by omega) (fun e => by have : w.heap.size + 1 = h := Option.some.inj e; omega)).trans HZ3.out)
      obtain ⟨z0, z1, z2, zf⟩ := blk3 HZr.out
      obtain ⟨s0, s1, s2⟩ := res3 HZr.out (.int .i64 (N : Int)) (.int .i64 (N : Int)) (.slice (some ⟨h, 0, none⟩) (N * N) cp2)
      have HBr : Hid (Below w.heap.size w wr) := Lib.hid (HB3.out.grown hgr.out (by omega) (fun k hk => by cases hk; omega))
      have HF := Lib.hid hown.out
      clear hgr hsr HZr
      go_wp2_with fail
      (try simp only [Exit.inBlock, Exit.then]); refine bodyPost_ret (by simp [results, Try.results75, go_sem, s0, s1, s2]; try rfl) rfl ?_
      exact ⟨_, rfl, ((((HF.out.setLt (p := ⟨w.heap.size + 1, 0, none⟩) (Nat.lt_succ_self _) _).setLt (p := ⟨w.heap.size + 1, 1, none⟩) (Nat.lt_succ_self _) _).setLt (p := ⟨w.heap.size + 1, 2, none⟩) (Nat.lt_succ_self _) _)).more (by omega),
        ((HBr.out.setCell (Nat.le_succ _) _).setCell (Nat.le_succ _) _).setCell (Nat.le_succ _) _⟩
end Go.Proofs.Yteghpageamehkaa
namespace Go.Proofs.Yteghpageamehkaa
set_option linter.unusedSimpArgs false
open Go.RowKit

def amC (r c : Int) (xs : List Int) (v : Int) : Int := bif sqB r c xs then (bif inR v 0 7 then 0 else 2) else 1
def amN (r c : Int) (xs : List Int) (v : Int) : Int := bif sqB r c xs then (bif inR v 0 7 then r else 0) else 0
def amL (r c : Int) (xs : List Int) (v : Int) : List Int := bif sqB r c xs then (bif inR v 0 7 then mskL r.toNat v.toNat (dataL r.toNat) xs (dataL r.toNat).length else []) else []
theorem amL_le (r c : Int) (xs : List Int) (v : Int) : (amL r c xs v).length ≤ 1681 := by
  unfold amL
  cases hs : sqB r c xs
  · simp
  · obtain ⟨N, rfl, rfl, hN, hl, _⟩ := sqB_true hs
    have hNN : N * N ≤ 1681 := Nat.mul_le_mul hN.2.1 hN.2.1
    cases inR v 0 7
    · simp
    · simp only [cond_true]
      rw [mskL_len, hl]; exact hNN
set_option maxHeartbeats 4000000 in
theorem ApplyMask_any (r c : Int) (A : Option Addr) (n cp : Nat) (xs : List Int) (v : Int) (w : World) (B : Nat) (hr : RI w B A n xs) (hB : B ≤ w.heap.size) (hn : n ≤ 1000000000000000) :
    Calls Try.prog 38 #[.agg #[.int .i64 r, .int .i64 c, .slice A n cp], .int .i64 v] w fun e w' =>
      ∃ u, e = .returned (.tuple #[.agg #[.int .i64 (amN r c xs v), .int .i64 (amN r c xs v), u], .int .i64 (amC r c xs v)]) ∧ Own w' w.heap.size u (amL r c xs v) ∧ Below w.heap.size w w' := by
  have HR := Lib.hid (hr.more hB)
  have HX0 := Lib.hid (show ((w.alloc (.cells #[.int .i64 r, .int .i64 c, .slice A n cp] 37)).alloc (.cells #[.int .i64 0, .int .i64 0, .slice none 0 0] 37)).heap[w.heap.size]? = some (.cells #[.int .i64 r, .int .i64 c, .slice A n cp] 37 (0, 0)) by (repeat (first | (with_reducible exact heap_alloc_new _ _) | (rw [heap_drew1]) | (rw [heap_drewN1]) | (rw [Below.heap_setCell _ _ _ _ (by first | omega | (simp; done) | (simp; omega))]) | (rw [Below.heap_alloc _ _ _ (by first | omega | (simp; done) | (simp; omega))]) | (exact heap_alloc_at (by first | omega | (simp; done) | (simp; omega))))))
  have HZ0 := Lib.hid (show ((w.alloc (.cells #[.int .i64 r, .int .i64 c, .slice A n cp] 37)).alloc (.cells #[.int .i64 0, .int .i64 0, .slice none 0 0] 37)).heap[w.heap.size + 1]? = some (.cells #[.int .i64 0, .int .i64 0, .slice none 0 0] 37 (0, 0)) by (repeat (first | (with_reducible exact heap_alloc_new _ _) | (rw [heap_drew1]) | (rw [heap_drewN1]) | (rw [Below.heap_setCell _ _ _ _ (by first | omega | (simp; done) | (simp; omega))]) | (rw [Below.heap_alloc _ _ _ (by first | omega | (simp; done) | (simp; omega))]) | (exact heap_alloc_at (by first | omega | (simp; done) | (simp; omega))))))
  have HC := Lib.hid (isMatrix_any r c A n cp xs ((w.alloc (.cells #[.int .i64 r, .int .i64 c, .slice A n cp] 37)).alloc (.cells #[.int .i64 0, .int .i64 0, .slice none 0 0] 37)) w.heap.size ((HR.out.alloc (Nat.le_refl _) _).alloc (by simp) _) (by simp; omega) hn)
  have hlen := hr.len
  clear hr
  unfold amC amN amL
  cases hs : sqB r c xs
  · rw [hs] at HC
    go_enter Try.func38, Try.ntmps38
    go_wp2_with fail
    (go_at_call 72; go_call (HC.out) as e1 w1 ⟨rfl, hb1⟩; obtain ⟨hc1, hf1⟩ := bcell hb1; have hB1 : Below w.heap.size w w1 := (below_then (by first | (go_grown; done) | (repeat (first | (with_reducible assumption) | (with_reducible exact Below.refl _ _) | (with_reducible refine below_drewN' ?_ _) | (with_reducible refine Below.drew ?_) | ((with_reducible refine Below.alloc ?_ ?_ _); rotate_left; focus (first | (simp; done) | (simp; omega) | omega)) | ((with_reducible refine Below.setCell ?_ ?_ _); rotate_left; focus (first | (simp; done) | (simp; omega) | omega))))) (by first | omega | (simp; done) | (simp; omega)) hb1); have hz1a : w.heap.size < w1.heap.size := (by have := hb1.size; first | omega | (simp at this; omega)); have hz1b : w.heap.size + 1 < w1.heap.size := (by have := hb1.size; first | omega | (simp at this; omega)))
    have HZ1 := Lib.hid (blk_below HZ0.out hb1 (by simp))
    obtain ⟨z0, z1, z2, zf⟩ := blk3 HZ1.out
    obtain ⟨s0, s1, s2⟩ := res3 HZ1.out (.int .i64 0) (.int .i64 0) (.slice none 0 0)
    clear hc1 hf1
    go_wp2_with fail
    (try simp only [Exit.inBlock, Exit.then]); refine bodyPost_ret (by simp [results, Try.results38, go_sem, s0, s1, s2]; try rfl) rfl ?_
    exact ⟨_, rfl, by simpa using Own.nil, ((hB1.setCell (Nat.le_succ _) _).setCell (Nat.le_succ _) _).setCell (Nat.le_succ _) _⟩
  rw [hs] at HC
  cases hv : inR v 0 7
  · go_enter Try.func38, Try.ntmps38
    go_wp2_with fail
    (go_at_call 72; go_call (HC.out) as e1 w1 ⟨rfl, hb1⟩; obtain ⟨hc1, hf1⟩ := bcell hb1; have hB1 : Below w.heap.size w w1 := (below_then (by first | (go_grown; done) | (repeat (first | (with_reducible assumption) | (with_reducible exact Below.refl _ _) | (with_reducible refine below_drewN' ?_ _) | (with_reducible refine Below.drew ?_) | ((with_reducible refine Below.alloc ?_ ?_ _); rotate_left; focus (first | (simp; done) | (simp; omega) | omega)) | ((with_reducible refine Below.setCell ?_ ?_ _); rotate_left; focus (first | (simp; done) | (simp; omega) | omega))))) (by first | omega | (simp; done) | (simp; omega)) hb1); have hz1a : w.heap.size < w1.heap.size := (by have := hb1.size; first | omega | (simp at this; omega)); have hz1b : w.heap.size + 1 < w1.heap.size := (by have := hb1.size; first | omega | (simp at this; omega)))
    have HZ1 := Lib.hid (blk_below HZ0.out hb1 (by simp))
    obtain ⟨z0, z1, z2, zf⟩ := blk3 HZ1.out
    obtain ⟨s0, s1, s2⟩ := res3 HZ1.out (.int .i64 0) (.int .i64 0) (.slice none 0 0)
    clear hc1 hf1
    go_wp2_with (go_at_call 53; refine (inRange_any _ _ _ _).mono ?_; rintro e w' ⟨rfl, rfl⟩)
    (try simp only [Exit.inBlock, Exit.then]); refine bodyPost_ret (by simp [results, Try.results38, go_sem, s0, s1, s2]; try rfl) rfl ?_
    exact ⟨_, rfl, by simpa using Own.nil, ((hB1.setCell (Nat.le_succ _) _).setCell (Nat.le_succ _) _).setCell (Nat.le_succ _) _⟩
  · obtain ⟨N, rfl, rfl, hN, hl, hal⟩ := sqB_true hs
    have hvr := inR_true hv
    obtain ⟨V, rfl⟩ := Int.eq_ofNat_of_zero_le hvr.1
    have hN0 : 0 < N * N := Nat.mul_pos (by omega) (by omega)
    have hNN : N * N ≤ 1681 := Nat.mul_le_mul hN.2.1 hN.2.1
    have hnN : n = N * N := by omega
    subst hnN
    obtain ⟨b, o, rfl, -, -⟩ := HR.out.cells hN0
    have hPF := fun (b o c : Nat) (w : World) (B : Nat) (hr : RI w B (some ⟨b, o, none⟩) (N * N) xs) (hB : B ≤ w.heap.size) => masked_any N V b o c xs w B hN (by omega) hr hB hl hal
    simp only [cond_true, Int.toNat_natCast]
    have hpl : (mskL N V (dataL N) xs (dataL N).length).length = N * N := by rw [mskL_len, hl]
    generalize mskL N V (dataL N) xs (dataL N).length = PL at hPF hpl ⊢
    have HPF := Lib.hid hPF
    have HPL := Lib.hid hpl
    clear hPF hl hlen hpl hal
    go_enter Try.func38, Try.ntmps38
    go_wp2_with fail
    (go_at_call 72; go_call (HC.out) as e1 w1 ⟨rfl, hb1⟩; obtain ⟨hc1, hf1⟩ := bcell hb1; have hB1 : Below w.heap.size w w1 := (below_then (by first | (go_grown; done) | (repeat (first | (with_reducible assumption) | (with_reducible exact Below.refl _ _) | (with_reducible refine below_drewN' ?_ _) | (with_reducible refine Below.drew ?_) | ((with_reducible refine Below.alloc ?_ ?_ _); rotate_left; focus (first | (simp; done) | (simp; omega) | omega)) | ((with_reducible refine Below.setCell ?_ ?_ _); rotate_left; focus (first | (simp; done) | (simp; omega) | omega))))) (by first | omega | (simp; done) | (simp; omega)) hb1); have hz1a : w.heap.size < w1.heap.size := (by have := hb1.size; first | omega | (simp at this; omega)); have hz1b : w.heap.size + 1 < w1.heap.size := (by have := hb1.size; first | omega | (simp at this; omega)))
    have HX1 := Lib.hid (blk_below HX0.out hb1 (by simp; omega))
    have HZ1 := Lib.hid (blk_below HZ0.out hb1 (by simp))
    have HR1 := Lib.hid (((HR.out.alloc (Nat.le_refl _) (.cells #[.int .i64 (N : Int), .int .i64 (N : Int), .slice (some ⟨b, o, none⟩) (N * N) cp] 37)).alloc (by simp) (.cells #[.int .i64 0, .int .i64 0, .slice none 0 0] 37)).below (hb1.mono (by simp; omega)))
    clear hc1 hf1
    obtain ⟨y0, y1, y2, -⟩ := blk3 HX1.out
    go_wp2_with first | (go_at_call 53; refine (inRange_any _ _ _ _).mono ?_; rintro e w' ⟨rfl, rfl⟩)
    (go_at_call 76; go_call (HPF.out b o cp _ w.heap.size HR1.out (by omega)) as e2 w2 ⟨v2, rfl, ho2, hb2⟩; obtain ⟨hc2, hf2⟩ := bcell hb2; have hB2 : Below w.heap.size w w2 := (below_then (by first | (go_grown; done) | (repeat (first | (with_reducible assumption) | (with_reducible exact Below.refl _ _) | (with_reducible refine below_drewN' ?_ _) | (with_reducible refine Below.drew ?_) | ((with_reducible refine Below.alloc ?_ ?_ _); rotate_left; focus (first | (simp; done) | (simp; omega) | omega)) | ((with_reducible refine Below.setCell ?_ ?_ _); rotate_left; focus (first | (simp; done) | (simp; omega) | omega))))) (by first | omega | (simp; done) | (simp; omega)) hb2); have hz2a : w.heap.size < w2.heap.size := (by have := hb2.size; first | omega | (simp at this; omega)); have hz2b : w.heap.size + 1 < w2.heap.size := (by have := hb2.size; first | omega | (simp at this; omega)))
    have hs2 := hb2.size
    obtain ⟨A2, c2, rfl, -⟩ := ho2.shape
    rw [HPL.out] at ho2 ⊢
    have HO2 := Lib.hid ho2
    have HZ2 := Lib.hid (blk_below HZ1.out hb2 (by omega))
    clear hc2 hf2 ho2 y0 y1 y2
    obtain ⟨z0, z1, z2, zf⟩ := blk3 HZ2.out
    obtain ⟨s0, s1, s2⟩ := res3 HZ2.out (.int .i64 (N : Int)) (.int .i64 (N : Int)) (.slice A2 (N * N) c2)
    go_wp2_with fail
    (try simp only [Exit.inBlock, Exit.then]); refine bodyPost_ret (by simp [results, Try.results38, go_sem, s0, s1, s2]; try rfl) rfl ?_
    exact ⟨_, rfl, ((((HO2.out.setLt (p := ⟨w.heap.size + 1, 0, none⟩) hz1b _).setLt (p := ⟨w.heap.size + 1, 1, none⟩) hz1b _).setLt (p := ⟨w.heap.size + 1, 2, none⟩) hz1b _)).more (by omega),
      ((hB2.setCell (Nat.le_succ _) _).setCell (Nat.le_succ _) _).setCell (Nat.le_succ _) _⟩
theorem l16Mask_any (v : Int) (w : World) : Calls Try.prog 74 #[.int .i64 v] w fun e w' => e = .returned (.bool (inR v 0 7)) ∧ w = w' := by
  go_enter Try.func74, Try.ntmps74
  go_wp2_with (go_at_call 57; refine (l01In_any _ _ _ _).mono ?_; rintro e w' ⟨rfl, rfl⟩)
  go_ret
  exact ⟨rfl, rfl⟩
set_option maxHeartbeats 4000000 in
theorem sApplyMask_any (r c : Int) (A : Option Addr) (n cp : Nat) (xs : List Int) (v : Int) (w : World) (B : Nat) (hr : RI w B A n xs) (hB : B ≤ w.heap.size) (hn : n ≤ 1000000000000000) :
    Calls Try.prog 37 #[.agg #[.int .i64 r, .int .i64 c, .slice A n cp], .int .i64 v] w fun e w' =>
      ∃ u, e = .returned (.tuple #[.agg #[.int .i64 (amN r c xs v), .int .i64 (amN r c xs v), u], .int .i64 (amC r c xs v)]) ∧ Own w' w.heap.size u (amL r c xs v) ∧ Below w.heap.size w w' := by
  have HR := Lib.hid (hr.more hB)
  have HX0 := Lib.hid (show ((w.alloc (.cells #[.int .i64 r, .int .i64 c, .slice A n cp] 37)).alloc (.cells #[.int .i64 0, .int .i64 0, .slice none 0 0] 37)).heap[w.heap.size]? = some (.cells #[.int .i64 r, .int .i64 c, .slice A n cp] 37 (0, 0)) by (repeat (first | (with_reducible exact heap_alloc_new _ _) | (rw [heap_drew1]) | (rw [heap_drewN1]) | (rw [Below.heap_setCell _ _ _ _ (by first | omega | (simp; done) | (simp; omega))]) | (rw [Below.heap_alloc _ _ _ (by first | omega | (simp; done) | (simp; omega))]) | (exact heap_alloc_at (by first | omega | (simp; done) | (simp; omega))))))
  have HZ0 := Lib.hid (show ((w.alloc (.cells #[.int .i64 r, .int .i64 c, .slice A n cp] 37)).alloc (.cells #[.int .i64 0, .int .i64 0, .slice none 0 0] 37)).heap[w.heap.size + 1]? = some (.cells #[.int .i64 0, .int .i64 0, .slice none 0 0] 37 (0, 0)) by (repeat (first | (with_reducible exact heap_alloc_new _ _) | (rw [heap_drew1]) | (rw [heap_drewN1]) | (rw [Below.heap_setCell _ _ _ _ (by first | omega | (simp; done) | (simp; omega))]) | (rw [Below.heap_alloc _ _ _ (by first | omega | (simp; done) | (simp; omega))]) | (exact heap_alloc_at (by first | omega | (simp; done) | (simp; omega))))))
  have HC := Lib.hid (l14Square_any r c A n cp xs ((w.alloc (.cells #[.int .i64 r, .int .i64 c, .slice A n cp] 37)).alloc (.cells #[.int .i64 0, .int .i64 0, .slice none 0 0] 37)) w.heap.size ((HR.out.alloc (Nat.le_refl _) _).alloc (by simp) _) (by simp; omega) hn)
  have hlen := hr.len
  clear hr
  unfold amC amN amL
  cases hs : sqB r c xs
  · rw [hs] at HC
    go_enter Try.func37, Try.ntmps37
    go_wp2_with fail
    (go_at_call 70; go_call (HC.out) as e1 w1 ⟨rfl, hb1⟩; obtain ⟨hc1, hf1⟩ := bcell hb1; have hB1 : Below w.heap.size w w1 := (below_then (by first | (go_grown; done) | (repeat (first | (with_reducible assumption) | (with_reducible exact Below.refl _ _) | (with_reducible refine below_drewN' ?_ _) | (with_reducible refine Below.drew ?_) | ((with_reducible refine Below.alloc ?_ ?_ _); rotate_left; focus (first | (simp; done) | (simp; omega) | omega)) | ((with_reducible refine Below.setCell ?_ ?_ _); rotate_left; focus (first | (simp; done) | (simp; omega) | omega))))) (by first | omega | (simp; done) | (simp; omega)) hb1); have hz1a : w.heap.size < w1.heap.size := (by have := hb1.size; first | omega | (simp at this; omega)); have hz1b : w.heap.size + 1 < w1.heap.size := (by have := hb1.size; first | omega | (simp at this; omega)))
    have HZ1 := Lib.hid (blk_below HZ0.out hb1 (by simp))
    obtain ⟨z0, z1, z2, zf⟩ := blk3 HZ1.out
    obtain ⟨s0, s1, s2⟩ := res3 HZ1.out (.int .i64 0) (.int .i64 0) (.slice none 0 0)
    clear hc1 hf1
    go_wp2_with fail
    (try simp only [Exit.inBlock, Exit.then]); refine bodyPost_ret (by simp [results, Try.results37, go_sem, s0, s1, s2]; try rfl) rfl ?_
    exact ⟨_, rfl, by simpa using Own.nil, ((hB1.setCell (Nat.le_succ _) _).setCell (Nat.le_succ _) _).setCell (Nat.le_succ _) _⟩
  rw [hs] at HC
  cases hv : inR v 0 7
  · go_enter Try.func37, Try.ntmps37
    go_wp2_with fail
    (go_at_call 70; go_call (HC.out) as e1 w1 ⟨rfl, hb1⟩; obtain ⟨hc1, hf1⟩ := bcell hb1; have hB1 : Below w.heap.size w w1 := (below_then (by first | (go_grown; done) | (repeat (first | (with_reducible assumption) | (with_reducible exact Below.refl _ _) | (with_reducible refine below_drewN' ?_ _) | (with_reducible refine Below.drew ?_) | ((with_reducible refine Below.alloc ?_ ?_ _); rotate_left; focus (first | (simp; done) | (simp; omega) | omega)) | ((with_reducible refine Below.setCell ?_ ?_ _); rotate_left; focus (first | (simp; done) | (simp; omega) | omega))))) (by first | omega | (simp; done) | (simp; omega)) hb1); have hz1a : w.heap.size < w1.heap.size := (by have := hb1.size; first | omega | (simp at this; omega)); have hz1b : w.heap.size + 1 < w1.heap.size := (by have := hb1.size; first | omega | (simp at this; omega)))
    have HZ1 := Lib.hid (blk_below HZ0.out hb1 (by simp))
    obtain ⟨z0, z1, z2, zf⟩ := blk3 HZ1.out
    obtain ⟨s0, s1, s2⟩ := res3 HZ1.out (.int .i64 0) (.int .i64 0) (.slice none 0 0)
    clear hc1 hf1
    go_wp2_with (go_at_call 74; refine (l16Mask_any _ _).mono ?_; rintro e w' ⟨rfl, rfl⟩)
    (try simp only [Exit.inBlock, Exit.then]); refine bodyPost_ret (by simp [results, Try.results37, go_sem, s0, s1, s2]; try rfl) rfl ?_
    exact ⟨_, rfl, by simpa using Own.nil, ((hB1.setCell (Nat.le_succ _) _).setCell (Nat.le_succ _) _).setCell (Nat.le_succ _) _⟩
  · obtain ⟨N, rfl, rfl, hN, hl, hal⟩ := sqB_true hs
    have hvr := inR_true hv
    obtain ⟨V, rfl⟩ := Int.eq_ofNat_of_zero_le hvr.1
    have hN0 : 0 < N * N := Nat.mul_pos (by omega) (by omega)
    have hNN : N * N ≤ 1681 := Nat.mul_le_mul hN.2.1 hN.2.1
    have hnN : n = N * N := by omega
    subst hnN
    obtain ⟨b, o, rfl, -, -⟩ := HR.out.cells hN0
    have hPF := fun (b o c : Nat) (w : World) (B : Nat) (hr : RI w B (some ⟨b, o, none⟩) (N * N) xs) (hB : B ≤ w.heap.size) => l16Apply_any N V b o c xs w B hN (by omega) hr hB hl hal
    simp only [cond_true, Int.toNat_natCast]
    have hpl : (mskL N V (dataL N) xs (dataL N).length).length = N * N := by rw [mskL_len, hl]
    generalize mskL N V (dataL N) xs (dataL N).length = PL at hPF hpl ⊢
    have HPF := Lib.hid hPF
    have HPL := Lib.hid hpl
    clear hPF hl hlen hpl hal
    go_enter Try.func37, Try.ntmps37
    go_wp2_with fail
    (go_at_call 70; go_call (HC.out) as e1 w1 ⟨rfl, hb1⟩; obtain ⟨hc1, hf1⟩ := bcell hb1; have hB1 : Below w.heap.size w w1 := (below_then (by first | (go_grown; done) | (repeat (first | (with_reducible assumption) | (with_reducible exact Below.refl _ _) | (with_reducible refine below_drewN' ?_ _) | (with_reducible refine Below.drew ?_) | ((with_reducible refine Below.alloc ?_ ?_ _); rotate_left; focus (first | (simp; done) | (simp; omega) | omega)) | ((with_reducible refine Below.setCell ?_ ?_ _); rotate_left; focus (first | (simp; done) | (simp; omega) | omega))))) (by first | omega | (simp; done) | (simp; omega)) hb1); have hz1a : w.heap.size < w1.heap.size := (by have := hb1.size; first | omega | (simp at this; omega)); have hz1b : w.heap.size + 1 < w1.heap.size := (by have := hb1.size; first | omega | (simp at this; omega)))
    have HX1 := Lib.hid (blk_below HX0.out hb1 (by simp; omega))
    have HZ1 := Lib.hid (blk_below HZ0.out hb1 (by simp))
    have HR1 := Lib.hid (((HR.out.alloc (Nat.le_refl _) (.cells #[.int .i64 (N : Int), .int .i64 (N : Int), .slice (some ⟨b, o, none⟩) (N * N) cp] 37)).alloc (by simp) (.cells #[.int .i64 0, .int .i64 0, .slice none 0 0] 37)).below (hb1.mono (by simp; omega)))
    clear hc1 hf1
    obtain ⟨y0, y1, y2, -⟩ := blk3 HX1.out
    go_wp2_with first | (go_at_call 74; refine (l16Mask_any _ _).mono ?_; rintro e w' ⟨rfl, rfl⟩)
    (go_at_call 75; go_call (HPF.out b o cp _ w.heap.size HR1.out (by omega)) as e2 w2 ⟨v2, rfl, ho2, hb2⟩; obtain ⟨hc2, hf2⟩ := bcell hb2; have hB2 : Below w.heap.size w w2 := (below_then (by first | (go_grown; done) | (repeat (first | (with_reducible assumption) | (with_reducible exact Below.refl _ _) | (with_reducible refine below_drewN' ?_ _) | (with_reducible refine Below.drew ?_) | ((with_reducible refine Below.alloc ?_ ?_ _); rotate_left; focus (first | (simp; done) | (simp; omega) | omega)) | ((with_reducible refine Below.setCell ?_ ?_ _); rotate_left; focus (first | (simp; done) | (simp; omega) | omega))))) (by first | omega | (simp; done) | (simp; omega)) hb2); have hz2a : w.heap.size < w2.heap.size := (by have := hb2.size; first | omega | (simp at this; omega)); have hz2b : w.heap.size + 1 < w2.heap.size := (by have := hb2.size; first | omega | (simp at this; omega)))
    have hs2 := hb2.size
    obtain ⟨A2, c2, rfl, -⟩ := ho2.shape
    rw [HPL.out] at ho2 ⊢
    have HO2 := Lib.hid ho2
    have HZ2 := Lib.hid (blk_below HZ1.out hb2 (by omega))
    clear hc2 hf2 ho2 y0 y1 y2
    obtain ⟨z0, z1, z2, zf⟩ := blk3 HZ2.out
    obtain ⟨s0, s1, s2⟩ := res3 HZ2.out (.int .i64 (N : Int)) (.int .i64 (N : Int)) (.slice A2 (N * N) c2)
    go_wp2_with fail
    (try simp only [Exit.inBlock, Exit.then]); refine bodyPost_ret (by simp [results, Try.results37, go_sem, s0, s1, s2]; try rfl) rfl ?_
    exact ⟨_, rfl, ((((HO2.out.setLt (p := ⟨w.heap.size + 1, 0, none⟩) hz1b _).setLt (p := ⟨w.heap.size + 1, 1, none⟩) hz1b _).setLt (p := ⟨w.heap.size + 1, 2, none⟩) hz1b _)).more (by omega),
      ((hB2.setCell (Nat.le_succ _) _).setCell (Nat.le_succ _) _).setCell (Nat.le_succ _) _⟩
end Go.Proofs.Yteghpageamehkaa
