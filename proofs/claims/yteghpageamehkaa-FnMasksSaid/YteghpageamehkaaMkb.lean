/-
  The row FnMasks: masking twice restores a drawn grid, and turns exactly the data cells that the mask names; no condition.
-/
import Derived.Test.YteghpageamehkaaMka
import Derived.Test.YteghpageamehkaaArgS
import Derived.Test.YteghpageamehkaaToS
import Derived.Test.YteghpageamehkaaBlk
import Derived.Lib.SmallJoins
import Derived.Test.YteghpageamehkaaC15I
import Derived.Deep.RegionHeld3
import Derived.Test.YteghpageamehkaaRegion
import Derived.Test.YteghpageamehkaaSlice
import Derived.Test.YteghpageamehkaaArgB
import Derived.Test.YteghpageamehkaaDrT
import Derived.Test.YteghpageamehkaaDice
namespace Go.Proofs.Yteghpageamehkaa
set_option linter.unusedSimpArgs false
open Go.RowKit

theorem idxI {N : Nat} {p q : Int × Int} (hp : 0 ≤ p.1 ∧ 0 ≤ p.2 ∧ p.1 < N ∧ p.2 < N) (hq : 0 ≤ q.1 ∧ 0 ≤ q.2 ∧ q.1 < N ∧ q.2 < N) (h : idxP N p = idxP N q) : p = q := by
  obtain ⟨a, b⟩ := q
  simp only at hq
  obtain ⟨R, rfl⟩ := Int.eq_ofNat_of_zero_le hq.1
  obtain ⟨C, rfl⟩ := Int.eq_ofNat_of_zero_le hq.2.1
  have e : idxP N ((R : Int), (C : Int)) = R * N + C := (idx_eq (p := ((R : Int), (C : Int))) (by simp only; omega) (by omega)).2 rfl
  rw [e] at h
  exact (idx_eq hp (by omega)).1 h
theorem dataI {N : Nat} (h : 17 ≤ N ∧ N ≤ 41 ∧ N % 4 = 1) {i j : Nat} (hi : i < (dataL N).length) (hj : j < (dataL N).length) (e : idxP N (nthP (dataL N) i) = idxP N (nthP (dataL N) j)) : i = j := by
  have h1 := idxI (data_in4 h _ (nthP_mem hi)) (data_in4 h _ (nthP_mem hj)) e
  rcases Nat.lt_trichotomy i j with g | g | g
  · exact absurd h1 (data_apart h g hj)
  · exact g
  · exact absurd h1.symm (data_apart h g hi)
theorem msk_nth {N m : Nat} {xs : List Int} (h : 17 ≤ N ∧ N ≤ 41 ∧ N % 4 = 1) (hl : xs.length = N * N) : ∀ i, i ≤ (dataL N).length → ∀ j, j < (dataL N).length →
    nth (mskL N m (dataL N) xs i) (idxP N (nthP (dataL N) j)) = if j < i ∧ (0 ≤ nth xs (idxP N (nthP (dataL N) j)) ∧ turnB m (nthP (dataL N) j).1.toNat (nthP (dataL N) j).2.toNat = true) then 1 - nth xs (idxP N (nthP (dataL N) j)) else nth xs (idxP N (nthP (dataL N) j)) := by
  intro i
  induction i with
  | zero => intro _ j _; simp [mskL]
  | succ i ih =>
    intro hi j hj
    have hi' : i < (dataL N).length := by omega
    have h1 := ih (by omega) j hj
    have h2 := ih (by omega) i hi'
    rw [if_neg (by omega)] at h2
    simp only [mskL]
    rw [h2]
    have hlt : idxP N (nthP (dataL N) j) < (mskL N m (dataL N) xs i).length := by
      rw [mskL_len, hl]; exact (idxP_lt (data_in4 h _ (nthP_mem hj))).1
    by_cases e : i = j
    · subst e
      rw [h1, if_neg (by omega)] at h2
      by_cases hc : 0 ≤ nth xs (idxP N (nthP (dataL N) i)) ∧ turnB m (nthP (dataL N) i).1.toNat (nthP (dataL N) i).2.toNat = true
      · rw [if_pos (by simpa using hc), if_pos ⟨by omega, hc⟩, nth_set hlt, if_pos rfl]
      · rw [if_neg (by simpa using hc), if_neg (by rintro ⟨_, h3⟩; exact hc h3), h1, if_neg (by omega)]
    · have hne : idxP N (nthP (dataL N) i) ≠ idxP N (nthP (dataL N) j) := fun x => e (dataI h hi' hj x)
      have hif : (if j < i + 1 ∧ (0 ≤ nth xs (idxP N (nthP (dataL N) j)) ∧ turnB m (nthP (dataL N) j).1.toNat (nthP (dataL N) j).2.toNat = true) then 1 - nth xs (idxP N (nthP (dataL N) j)) else nth xs (idxP N (nthP (dataL N) j)))
          = (if j < i ∧ (0 ≤ nth xs (idxP N (nthP (dataL N) j)) ∧ turnB m (nthP (dataL N) j).1.toNat (nthP (dataL N) j).2.toNat = true) then 1 - nth xs (idxP N (nthP (dataL N) j)) else nth xs (idxP N (nthP (dataL N) j))) := by
        have : (j < i + 1) = (j < i) := propext ⟨fun x => by omega, fun x => by omega⟩
        simp only [this]
      rw [hif, ← h1]
      split
      · rw [nth_set hlt, if_neg hne]
      · rfl
theorem msk_miss {N m : Nat} {xs : List Int} {k : Nat} (hk : k < xs.length) : ∀ i, (∀ j, j < i → idxP N (nthP (dataL N) j) ≠ k) → nth (mskL N m (dataL N) xs i) k = nth xs k := by
  intro i
  induction i with
  | zero => intro _; rfl
  | succ i ih =>
    intro h
    have h1 := ih fun j hj => h j (by omega)
    simp only [mskL]
    split
    · rw [nth_set (by rw [mskL_len]; exact hk), if_neg (h i (by omega))]; exact h1
    · exact h1
/-- Masking twice restores the cells. -/
theorem msk_twice {N m : Nat} {xs : List Int} (h : 17 ≤ N ∧ N ≤ 41 ∧ N % 4 = 1) (hl : xs.length = N * N) (ha : allIn (-1) 1 xs = true) :
    mskL N m (dataL N) (mskL N m (dataL N) xs (dataL N).length) (dataL N).length = xs := by
  have hl1 : (mskL N m (dataL N) xs (dataL N).length).length = N * N := by rw [mskL_len, hl]
  have hl2 : (mskL N m (dataL N) (mskL N m (dataL N) xs (dataL N).length) (dataL N).length).length = xs.length := by rw [mskL_len, mskL_len]
  refine List.ext_getElem hl2 fun k h1 h2 => ?_
  rw [← nth_lt h1, ← nth_lt h2]
  by_cases hk : ∃ j, j < (dataL N).length ∧ idxP N (nthP (dataL N) j) = k
  · obtain ⟨j, hj, rfl⟩ := hk
    have e1 := msk_nth (m := m) h hl (dataL N).length (Nat.le_refl _) j hj
    have e2 := msk_nth (m := m) h hl1 (dataL N).length (Nat.le_refl _) j hj
    rw [e2, e1]
    have hb := allIn_nth ha h2
    generalize nth xs (idxP N (nthP (dataL N) j)) = x at hb
    by_cases hc : 0 ≤ x ∧ turnB m (nthP (dataL N) j).1.toNat (nthP (dataL N) j).2.toNat = true
    · rw [if_pos (⟨hj, hc⟩ : j < (dataL N).length ∧ _)]
      rw [if_pos ⟨hj, by omega, hc.2⟩]
      omega
    · have e3 : (if j < (dataL N).length ∧ 0 ≤ x ∧ turnB m (nthP (dataL N) j).1.toNat (nthP (dataL N) j).2.toNat = true then 1 - x else x) = x := if_neg (by rintro ⟨_, h3⟩; exact hc h3)
      rw [e3, if_neg (by rintro ⟨_, h3⟩; exact hc h3)]
  · have hm : ∀ j, j < (dataL N).length → idxP N (nthP (dataL N) j) ≠ k := fun j hj e => hk ⟨j, hj, e⟩
    rw [msk_miss (show k < (mskL N m (dataL N) xs (dataL N).length).length by rw [mskL_len]; exact h2) _ hm, msk_miss h2 _ hm]
/-- Exactly the data cells turn that the mask names. -/
theorem msk_turned {N m : Nat} {xs : List Int} (h : 17 ≤ N ∧ N ≤ 41 ∧ N % 4 = 1) (hl : xs.length = N * N) {R C : Nat} (hR : R < N) (hC : C < N) :
    (nth (mskL N m (dataL N) xs (dataL N).length) (R * N + C) != nth xs (R * N + C)) = (turnB m R C && (ixL (dataL N) R C (dataL N).length).isSome && decide (0 ≤ nth xs (R * N + C))) := by
  have hk : R * N + C < xs.length := by rw [hl]; exact cell_lt hR hC
  by_cases hx : ∃ j, j < (dataL N).length ∧ nthP (dataL N) j = ((R : Int), (C : Int))
  · obtain ⟨j, hj, hp⟩ := hx
    have h1 := ix_found h hj (eqP_iff.2 hp)
    have hi : idxP N (nthP (dataL N) j) = R * N + C := (idx_eq (data_in4 h _ (nthP_mem hj)) hC).2 hp
    have e1 := msk_nth (m := m) h hl (dataL N).length (Nat.le_refl _) j hj
    rw [hi, hp] at e1
    simp only [Int.toNat_natCast] at e1
    rw [e1, h1]
    generalize nth xs (R * N + C) = x
    by_cases hc : 0 ≤ x ∧ turnB m R C = true
    · rw [if_pos ⟨hj, hc⟩, hc.2, decide_eq_true hc.1]
      simp; omega
    · rw [if_neg (by rintro ⟨_, h3⟩; exact hc h3)]
      cases ht : turnB m R C with
      | false => simp
      | true =>
        have : ¬ 0 ≤ x := fun h => hc ⟨h, ht⟩
        simp; omega
  · have h1 : ixL (dataL N) R C (dataL N).length = none := ixL_none fun i hi => by
      cases e : eqP (R : Int) (C : Int) (nthP (dataL N) i) with
      | false => rfl
      | true => exact absurd ⟨i, hi, eqP_iff.1 e⟩ hx
    rw [h1, msk_miss hk _ fun j hj e => hx ⟨j, hj, (idx_eq (data_in4 h _ (nthP_mem hj)) hC).1 e⟩]
    simp
theorem MapF.look2 {w : World} {b n : Nat} {f : Int → Int} (h : MapF w b n f) {m : Int} (hm : I64 m) {F : Nat} (hF : f m = F) :
    (Instr.lookup 98 (.map (some b)) (.int .i64 m) true).run Try.prog w = .ok (.tuple #[.func (.func F) #[] #[], .bool true]) w := by
  obtain ⟨D, h1, h2⟩ := h
  obtain ⟨v, ps, hrun, hv⟩ := h1.look_ok keyedInt Try.underlying98 (zero_fun w) funE_nil (keyI hm)
  rw [h2 m hm, hF] at hv
  have hh : Maps.has D (.int .i64 m) = true := by
    cases e : Maps.has D (.int .i64 m) with
    | true => rfl
    | false =>
      have h3 := Maps.atKey_of_not_has e (.lit (.int .i64 (-1)))
      rw [h2 m hm, hF] at h3
      simp only [DataW.lit.injEq, Lit.int.injEq, true_and] at h3
      omega
  rw [hrun, funE_inv hv rfl, hh]
set_option maxHeartbeats 4000000 in
theorem MaskTurns_any (m R C : Nat) (w : World) (hm : m < 8) (hR : R ≤ 41) (hC : C ≤ 41) :
    Calls Try.prog 47 #[.int .i64 m, .int .i64 R, .int .i64 C] w fun e w' => e = .returned (.bool (turnB m R C)) ∧ Below w.heap.size w w' := by
  have HT := Lib.hid (fun (w : World) => cond_any m R C w hm hR hC)
  have hFm := Lib.hid (fun (f : Int → Int) (h : ∀ m : Nat, m < 8 → f m = condF m) => h m hm)
  have hm64 := Lib.hid (show I64 (m : Int) by unfold I64; omega)
  have hEN := condF_enter hm
  generalize turnB m R C = T at HT ⊢
  generalize condF m = F at HT hFm hEN
  have b1 : inR (R : Int) 0 40000 = true := by simp [inR]; omega
  have b2 : inR (C : Int) 0 40000 = true := by simp [inR]; omega
  go_enter Try.func47, Try.ntmps47
  go_wp2_with fail
  (go_at_call 79; go_call (conditions_any _) as e2 w2 ⟨f, rfl, hM2, hf2x, hb2⟩; obtain ⟨hc2, hf2⟩ := bcell hb2; have hB2 : Below w.heap.size w w2 := (below_then (by first | (go_grown; done) | (repeat (first | (with_reducible assumption) | (with_reducible exact Below.refl _ _) | (with_reducible refine below_drewN' ?_ _) | (with_reducible refine Below.drew ?_) | ((with_reducible refine Below.alloc ?_ ?_ _); rotate_left; focus (first | (simp; done) | (simp; omega) | omega)) | ((with_reducible refine Below.setCell ?_ ?_ _); rotate_left; focus (first | (simp; done) | (simp; omega) | omega))))) (by first | omega | (simp; done) | (simp; omega)) hb2))
  have hlk := hM2.look2 hm64.out (hFm.out f hf2x)
  clear hM2 hf2x
  go_wp2_with first | (go_at_call 53; refine (inRange_any _ _ _ _).mono ?_; rintro e w' ⟨rfl, rfl⟩) | (with_reducible refine (HT.out _).mono ?_; rintro e6 w6 ⟨rfl, rfl⟩)
  go_ret
  exact ⟨by simp, hB2⟩
end Go.Proofs.Yteghpageamehkaa
namespace Go.Proofs.Yteghpageamehkaa
open Go.ChangeShapes Go.WideShapes Go.ChangeAt Go.RowKit Go.Deep

theorem wf_i64 {n : Int} (h : (Lit.int .i64 n).wf = true) : -9223372036854775808 ≤ n ∧ n ≤ 9223372036854775807 := by
  have h1 : IntKind.i64.min = -9223372036854775808 := rfl
  have h2 : IntKind.i64.max = 9223372036854775807 := rfl
  simp only [Lit.wf, Bool.and_eq_true, decide_eq_true_eq] at h
  omega
/-- The cell of a slice of numbers that came in reads as its numbers. -/
theorem cell_ints {H : Type} {enc : TypeId × Value → H} {P : Program} {W : World} {fuel : Nat} {t e : TypeId} {cs : List Value} {y : DataW H × List MemPlace}
    (ht : P.underlying t = some (.slice e)) (he : P.underlying e = some (.int .i64)) (hc : P.cellsOf e = 1) (hf : DataW.trod enc P W 0 (fun _ => true) true fuel t cs = some y) (_ : ∀ x ∈ y.2, x.block < W.heap.size) :
    ∃ A n c xs, cs = [.slice A n c] ∧ RI W W.heap.size A n xs ∧ n ≤ 9223372036854775807 ∧ ∀ x ∈ xs, -9223372036854775808 ≤ x ∧ x ≤ 9223372036854775807 := by
  rcases open_ints ht he hc hf with ⟨rfl, hx⟩ | ⟨a, len', cap', zs, rfl, _, hl, hm, hz, hx, hcell, hwz⟩
  · exact ⟨none, 0, 0, [], rfl, RI.nil, by omega, fun x hx => by cases hx⟩
  · simp only [if_true] at hz
    unfold maxLen at hm
    refine ⟨some a, len', cap', zs.take len', rfl, ⟨by rw [List.length_take]; omega, fun hn => ?_⟩, by omega, fun x hx => wf_i64 (hwz x (List.mem_of_mem_take hx))⟩
    have h0 := hcell 0 (by omega)
    have hadd : a.add 0 = a := by unfold Addr.add; simp
    rw [hadd] at h0
    have hs := spot_none h0
    refine ⟨a.block, a.off, by rw [← hs], World.block_lt_of_cell? W a h0, fun k hk => ?_⟩
    have hk' := hcell k (by omega)
    have e1 : a.add k = ⟨a.block, a.off + k, none⟩ := by
      rw [hs]; unfold Addr.add; split
      · rename_i h; subst h; rfl
      · rfl
    rw [e1] at hk'
    rw [hk']
    unfold nth
    simp [hk]
theorem arg_grid {H : Type} {enc : TypeId × Value → H} {P : Program} {W : World} {r : Reach} {base : Nat} {t e : TypeId} {f0 f1 f2 : Field} {v : Value} {d : DataW H} {p : List MemPlace}
    (hs : P.underlying t = some (.struct #[f0, f1, f2])) (hone : oneCellFields P #[f0, f1, f2] = true) (hC : P.cellsOf t = 3)
    (h0 : P.underlying f0.type = some (.int .i64)) (h1 : P.underlying f1.type = some (.int .i64)) (ht : P.underlying f2.type = some (.slice e)) (he : P.underlying e = some (.int .i64)) (hc : P.cellsOf e = 1)
    (hv : Value.okWide P W r base t v) (h : DataW.Trod enc P W 0 (fun _ => true) true t v d p) (hlt : ∀ x ∈ p, x.block < W.heap.size) :
    ∃ (a b : Int) (A : Option Addr) (n c : Nat) (xs : List Int), v = .agg #[.int .i64 a, .int .i64 b, .slice A n c] ∧ (-9223372036854775808 ≤ a ∧ a ≤ 9223372036854775807) ∧ (-9223372036854775808 ≤ b ∧ b ≤ 9223372036854775807) ∧
      RI W W.heap.size A n xs ∧ n ≤ 9223372036854775807 ∧ ∀ x ∈ xs, -9223372036854775808 ≤ x ∧ x ≤ 9223372036854775807 := by
  obtain ⟨v0, v1, v2, y0, y1, y2, m, rfl, rfl, rfl, g0, g1, g2⟩ := Go.Joins.open_agg3 hs hone hC hv h
  obtain ⟨a, ha, _, hwa⟩ := DataW.trod_int h0 g0
  obtain ⟨b, hb, _, hwb⟩ := DataW.trod_int h1 g1
  obtain ⟨A, n, c, xs, hcs, hr, hn, hx⟩ := cell_ints ht he hc g2 (fun x hx => hlt x (by simp [hx]))
  simp only [List.cons.injEq, and_true] at ha hb hcs
  subst ha hb hcs
  exact ⟨a, b, A, n, c, xs, rfl, wf_i64 hwa, wf_i64 hwb, hr, hn, hx⟩
theorem toGrid_any (r c : Int) (A : Option Addr) (n cp : Nat) (xs : List Int) (w : World) (B : Nat) (hr : RI w B A n xs) (hB : B ≤ w.heap.size) (hn : n ≤ 1000000000000) :
    Calls Try.prog 35 #[.agg #[.int .i64 r, .int .i64 c, .slice A n cp]] w fun e w' => ∃ v', e = .returned (.agg #[.int .i64 r, .int .i64 c, v']) ∧ Own w' w.heap.size v' xs ∧ Below w.heap.size w w' := by
  have HT := Lib.hid (fun w' (hb : Below w.heap.size w w') => toInt64S_any A n cp xs w' w.heap.size ((hr.more hB).below hb) hb.size hn)
  clear hr
  go_enter Try.func35, Try.ntmps35
  go_wp2_with ((go_at_call 19; go_call (HT.out _ (by go_grown)) as e1 w1 ⟨v1, rfl, ho1, hb1⟩; obtain ⟨hc1, hf1⟩ := bcell hb1; have hB1 : Below w.heap.size w w1 := (below_then (by first | (go_grown; done) | (repeat (first | (with_reducible assumption) | (with_reducible exact Below.refl _ _) | (with_reducible refine below_drewN' ?_ _) | (with_reducible refine Below.drew ?_) | ((with_reducible refine Below.alloc ?_ ?_ _); rotate_left; focus (first | (simp; done) | (simp; omega) | omega)) | ((with_reducible refine Below.setCell ?_ ?_ _); rotate_left; focus (first | (simp; done) | (simp; omega) | omega))))) (by first | omega | (simp; done) | (simp; omega)) hb1); have hz1a : w.heap.size < w1.heap.size := (by have := hb1.size; first | omega | (simp at this; omega))); obtain ⟨A1, c1, rfl, hr1⟩ := ho1.shape; have HO := Lib.hid ho1; clear ho1 hr1)
  have hR : w1.heap[w.heap.size + 1]? = some (.cells #[.int .i64 0, .int .i64 0, .slice none 0 0] 37 (0, 0)) := by
    refine blk_below ?_ hb1 (by simp)
    (repeat (first | (with_reducible exact heap_alloc_new _ _) | (rw [heap_drew1]) | (rw [heap_drewN1]) | (rw [Below.heap_setCell _ _ _ _ (by first | omega | (simp; done) | (simp; omega))]) | (rw [Below.heap_alloc _ _ _ (by first | omega | (simp; done) | (simp; omega))]) | (exact heap_alloc_at (by first | omega | (simp; done) | (simp; omega)))))
  obtain ⟨s0, s1, s2⟩ := res3 (show (w1.setCell ⟨w.heap.size + 1 + 1, 2, none⟩ (.slice A1 xs.length c1)).heap[w.heap.size + 1]? = some (.cells #[.int .i64 0, .int .i64 0, .slice none 0 0] 37 (0, 0)) from by (repeat (first | (with_reducible exact hR) | (with_reducible exact heap_alloc_new _ _) | (rw [heap_drew1]) | (rw [heap_drewN1]) | (rw [Below.heap_setCell _ _ _ _ (by first | omega | (simp; done) | (simp; omega))]) | (rw [Below.heap_alloc _ _ _ (by first | omega | (simp; done) | (simp; omega))]) | (exact heap_alloc_at (by first | omega | (simp; done) | (simp; omega)))))) (.int .i64 r) (.int .i64 c) (.slice A1 xs.length c1)
  (try simp only [Exit.inBlock, Exit.then]); refine bodyPost_ret (by simp [results, Try.results35, go_sem, s0, s1, s2]; try rfl) rfl ?_
  exact ⟨_, rfl, ((((HO.out.setLt (by simp) _).setLt (by simp) _).setLt (by simp) _).setLt (by simp) _).more (by simp; omega), by (repeat (first | (with_reducible assumption) | (with_reducible exact Below.refl _ _) | (with_reducible refine below_drewN' ?_ _) | (with_reducible refine Below.drew ?_) | ((with_reducible refine Below.alloc ?_ ?_ _); rotate_left; focus (first | (simp; done) | (simp; omega) | omega)) | ((with_reducible refine Below.setCell ?_ ?_ _); rotate_left; focus (first | (simp; done) | (simp; omega) | omega))))⟩
theorem eqGrid_same (r c : Int) (A1 A2 : Option Addr) (n c1 c2 : Nat) (xs : List Int) (w : World) (B1 B2 : Nat) (hr1 : RI w B1 A1 n xs) (hr2 : RI w B2 A2 n xs) (hB1 : B1 ≤ w.heap.size) (hB2 : B2 ≤ w.heap.size) (hn : n ≤ 1000000000000) :
    Calls Try.prog 21 #[.agg #[.int .i64 r, .int .i64 c, .slice A1 n c1], .agg #[.int .i64 r, .int .i64 c, .slice A2 n c2]] w fun e w' => e = .returned (.bool true) ∧ Below w.heap.size w w' := by
  have HE := Lib.hid (fun (w' : World) (hb : Below w.heap.size w w') => eqInt64S_any A1 A2 n n c1 c2 xs xs w' w.heap.size w.heap.size ((hr1.more hB1).below hb) ((hr2.more hB2).below hb) hn hn)
  have hx : (xs == xs) = true := by simp
  have hr0 : (r != r) = false := by simp
  have hc0 : (c != c) = false := by simp
  clear hr1 hr2
  rw [hx] at HE
  clear hx
  go_enter Try.func21, Try.ntmps21
  go_wp2_with (go_at_call 22; refine (HE.out _ (by go_grown)).mono ?_; rintro e1 w1 ⟨rfl, m1, rfl⟩)
  go_ret
  exact ⟨rfl, below_drewN' (by go_grown) _⟩
theorem grown_trans' {a b c : World} {r : Option Nat} (h : a.grownBy b r) (k : b.grownBy c r) : a.grownBy c r :=
  ⟨k.os.trans h.os, k.tape.trans h.tape, k.output.trans h.output, Nat.le_trans h.size k.size, fun j hj hne => (k.block j (Nat.lt_of_lt_of_le hj h.size) hne).trans (h.block j hj hne)⟩
theorem grown_alloc' {a w : World} {r : Option Nat} (h : a.grownBy w r) (o : Obj) : a.grownBy (w.alloc o) r :=
  ⟨h.os, h.tape, h.output, by have := h.size; simp; omega, fun j hj hne => (Below.heap_alloc _ _ _ (by have := h.size; omega)).trans (h.block j hj hne)⟩
theorem markGrid_any (r c : Int) (v : Value) (xs : List Int) (m : Int) (w : World) (B : Nat) (ho : Own w B v xs) (hn : xs.length ≤ 1000000000000) (hm0 : 0 ≤ m) (hm1 : m ≤ 1000000000000) :
    Calls Try.prog 24 #[.agg #[.int .i64 r, .int .i64 c, v], .int .i64 m] w fun e w' => e = .returned (.int .i64 (m + xs.length)) ∧ Own w' B v (marks m xs.length) ∧ w.grownBy w' v.ownBlock := by
  have HE := Lib.hid (fun (w' : World) (ho' : Own w' B v xs) => markInt64S_any v xs m w' B ho' hn hm0 hm1)
  have HO := Lib.hid ho
  obtain ⟨A, cp, rfl, hr⟩ := ho.shape
  clear ho hr
  go_enter Try.func24, Try.ntmps24
  go_wp2_with (go_at_call 23; refine (HE.out _ (HO.out.keep (by go_grown))).mono ?_; rintro e1 w1 ⟨rfl, ho1, hg1⟩)
  go_ret
  exact ⟨rfl, ho1, grown_trans' (grown_alloc' (World.grownBy.refl _ _) _) hg1⟩
theorem heldGrid_any (r c : Int) (v : Value) (n : Nat) (m : Int) (w : World) (B : Nat) (ho : Own w B v (marks m n)) (hn : n ≤ 1000000000000) (hm0 : 0 ≤ m) (hm1 : m ≤ 1000000000000) :
    Calls Try.prog 25 #[.agg #[.int .i64 r, .int .i64 c, v], .int .i64 m] w fun e w' => e = .returned (.int .i64 (m + n)) ∧ Below w.heap.size w w' := by
  have HE := Lib.hid (fun (w' : World) (ho' : Own w' B v (marks m n)) => heldInt64S_any v n m w' B ho' hn hm0 hm1)
  have HO := Lib.hid ho
  obtain ⟨A, cp, rfl, hr⟩ := ho.shape
  rw [marks_len] at *
  clear ho hr
  go_enter Try.func25, Try.ntmps25
  go_wp2_with (go_at_call 32; refine (HE.out _ (HO.out.keep (by go_grown))).mono ?_; rintro e1 w1 ⟨rfl, rfl⟩)
  go_ret
  exact ⟨rfl, by go_grown⟩
theorem szInt64S_ok (A : Option Addr) (n cp m : Nat) (w : World) (hn : n ≤ m) (hm : m ≤ 1000000000) :
    Calls Try.prog 69 #[.slice A n cp, .int .i64 m] w fun e w' => e = .returned (.int .i64 (m - n : Nat)) ∧ w = w' := by
  go_enter Try.func69, Try.ntmps69
  go_wp2_with fail
  go_ret
  exact ⟨ret_int (by omega), rfl⟩
theorem szInt64S_no (A : Option Addr) (n cp m : Nat) (w : World) (hn : m < n) (hn2 : n ≤ 9223372036854775807) :
    Calls Try.prog 69 #[.slice A n cp, .int .i64 m] w fun e w' => e = .returned (.int .i64 (-1)) ∧ w = w' := by
  go_enter Try.func69, Try.ntmps69
  go_wp2_with fail
  go_ret
  exact ⟨rfl, rfl⟩
theorem szGrid_ok (r c : Int) (A : Option Addr) (n cp m : Nat) (w : World) (hn : n ≤ m) (hm : m ≤ 1000000000) :
    Calls Try.prog 33 #[.agg #[.int .i64 r, .int .i64 c, .slice A n cp], .int .i64 m] w fun e w' => e = .returned (.int .i64 (m - n : Nat)) ∧ Below w.heap.size w w' := by
  go_enter Try.func33, Try.ntmps33
  go_wp2_with (go_at_call 69; refine (szInt64S_ok _ _ _ _ _ hn hm).mono ?_; rintro e w' ⟨rfl, rfl⟩)
  go_ret
  exact ⟨rfl, by go_grown⟩
theorem szGrid_no (r c : Int) (A : Option Addr) (n cp m : Nat) (w : World) (hn : m < n) (hn2 : n ≤ 9223372036854775807) :
    Calls Try.prog 33 #[.agg #[.int .i64 r, .int .i64 c, .slice A n cp], .int .i64 m] w fun e w' => e = .returned (.int .i64 (-1)) ∧ Below w.heap.size w w' := by
  go_enter Try.func33, Try.ntmps33
  go_wp2_with (go_at_call 69; refine (szInt64S_no _ _ _ _ _ hn hn2).mono ?_; rintro e w' ⟨rfl, rfl⟩)
  go_ret
  exact ⟨rfl, by go_grown⟩
end Go.Proofs.Yteghpageamehkaa
namespace Go.Proofs.Yteghpageamehkaa
set_option linter.unusedSimpArgs false
open Go.ChangeShapes Go.WideShapes Go.ChangeAt Go.RowKit Go.Deep

def piV (n r c : Int) : Int := if sizeB n then (ixL (dataL n.toNat) r c (dataL n.toNat).length).getD 0 else 0
def piC (n r c : Int) : Int := if sizeB n then (if (ixL (dataL n.toNat) r c (dataL n.toNat).length).isSome then 0 else 4) else 2
theorem box2 {w : World} {t : TypeId} {x y : Value} : (w.alloc (.cells #[x, y] t)).cell? ⟨w.heap.size, 0, none⟩ = some x ∧ (w.alloc (.cells #[x, y] t)).cell? ⟨w.heap.size, 1, none⟩ = some y :=
  ⟨by rw [cell_of_row _ _ 0 #[x, y] t (0, 0) (heap_alloc_new w _)]; rfl, by rw [cell_of_row _ _ 1 #[x, y] t (0, 0) (heap_alloc_new w _)]; rfl⟩
set_option maxRecDepth 20000 in
set_option maxHeartbeats 2000000 in
theorem PlaceIndex_any (n r c : Int) (w : World) (hr : I64 r) (hc : I64 c) :
    Calls Try.prog 15 #[.int .i64 n, .agg #[.int .i64 r, .int .i64 c]] w fun e w' => e = .returned (.tuple #[.int .i64 (piV n r c), .int .i64 (piC n r c)]) ∧ Below w.heap.size w w' := by
  unfold piV piC
  cases hs : sizeB n
  · go_enter Try.func15, Try.ntmps15
    go_wp2_with (go_at_call 52; refine (isMatrixSize_any _ _).mono ?_; rintro e w' ⟨rfl, rfl⟩)
    go_returns
    exact ⟨by simp, by (repeat (first | (with_reducible assumption) | (with_reducible exact Below.refl _ _) | (with_reducible refine below_drewN' ?_ _) | (with_reducible refine Below.drew ?_) | ((with_reducible refine Below.alloc ?_ ?_ _); rotate_left; focus (first | (simp; done) | (simp; omega) | omega)) | ((with_reducible refine Below.setCell ?_ ?_ _); rotate_left; focus (first | (simp; done) | (simp; omega) | omega))))⟩
  · obtain ⟨N, rfl, h1, h2, h3⟩ := sizeB_true hs
    have HI := Lib.hid (fun w => placeIndices_any N w ⟨h1, h2, h3⟩)
    have hbd := ixL_in (ps := dataL N) (r := r) (c := c) (n := (dataL N).length)
    have hle := dataL_le h2
    rw [show (N : Int).toNat = N by simp]
    generalize (dataL N).length = L at HI hbd hle ⊢
    generalize hO : ixL (dataL N) r c L = O at hbd ⊢
    have HO := Lib.hid hO
    clear hO
    go_enter Try.func15, Try.ntmps15
    go_wp2_with (go_at_call 52; refine (isMatrixSize_any _ _).mono ?_; rintro e w' ⟨rfl, rfl⟩)
    obtain ⟨y0, y1⟩ := box2 (w := w) (t := 32) (x := .int .i64 r) (y := .int .i64 c)
    go_region_held3 (fun w' => w'.cell? ⟨w.heap.size, 0, none⟩ = some (.int .i64 r) ∧ w'.cell? ⟨w.heap.size, 1, none⟩ = some (.int .i64 c))
      (first | (exact ⟨y0, y1⟩) | (exact ⟨(hc1 _ _ (by first | omega | (simp; done) | (simp; omega))).trans y0, (hc1 _ _ (by first | omega | (simp; done) | (simp; omega))).trans y1⟩) | go_keep)
      (((go_at_call 60; with_reducible refine (HI.out _).mono ?_; rintro e1 w1 ⟨b, nb, rfl, hbB, hmq, hb1⟩; obtain ⟨hc1, hf1⟩ := bcell hb1; have hB1 : Below w.heap.size w w1 := (below_then (by first | (go_grown; done) | (repeat (first | (with_reducible assumption) | (with_reducible exact Below.refl _ _) | (with_reducible refine below_drewN' ?_ _) | (with_reducible refine Below.drew ?_) | ((with_reducible refine Below.alloc ?_ ?_ _); rotate_left; focus (first | (simp; done) | (simp; omega) | omega)) | ((with_reducible refine Below.setCell ?_ ?_ _); rotate_left; focus (first | (simp; done) | (simp; omega) | omega))))) (by first | omega | (simp; done) | (simp; omega)) hb1); have hz1a : w.heap.size < w1.heap.size := (by have := hb1.size; first | omega | (simp at this; omega)))
        have hlk := hmq.look hr hc
        rw [HO.out] at hlk))
    cases O with
    | none =>
      go_wp2_with fail
      go_returns
      exact ⟨by simp, hB1⟩
    | some i =>
      go_wp2_with fail
      go_returns
      exact ⟨by simp, hB1⟩
set_option maxHeartbeats 2000000 in
theorem sPlaceIndex_any (n r c : Int) (w : World) :
    Calls Try.prog 17 #[.int .i64 n, .agg #[.int .i64 r, .int .i64 c]] w fun e w' => e = .returned (.tuple #[.int .i64 (piV n r c), .int .i64 (piC n r c)]) ∧ Below w.heap.size w w' := by
  unfold piV piC
  cases hs : sizeB n
  · go_enter Try.func17, Try.ntmps17
    go_wp2_with (go_at_call 55; refine (l14Size_any _ _).mono ?_; rintro e w' ⟨rfl, rfl⟩)
    go_returns
    exact ⟨by simp, by (repeat (first | (with_reducible assumption) | (with_reducible exact Below.refl _ _) | (with_reducible refine below_drewN' ?_ _) | (with_reducible refine Below.drew ?_) | ((with_reducible refine Below.alloc ?_ ?_ _); rotate_left; focus (first | (simp; done) | (simp; omega) | omega)) | ((with_reducible refine Below.setCell ?_ ?_ _); rotate_left; focus (first | (simp; done) | (simp; omega) | omega))))⟩
  · obtain ⟨N, rfl, h1, h2, h3⟩ := sizeB_true hs
    have HP := Lib.hid (fun w => l15Places_any N w ⟨h1, h2, h3⟩)
    have hfo := Lib.hid (fun k hk he => ix_found (N := N) ⟨h1, h2, h3⟩ (r := r) (c := c) (k := k) hk he)
    have hno := Lib.hid (fun he => ixL_none (ps := dataL N) (r := r) (c := c) (n := (dataL N).length) he)
    have hle := dataL_le h2
    rw [show (N : Int).toNat = N by simp]
    obtain ⟨L, hL⟩ : ∃ L, (dataL N).length = L := ⟨_, rfl⟩
    rw [hL] at hfo hno hle ⊢
    have HL := Lib.hid hL
    clear hL
    generalize dataL N = ps at HP hfo hno HL ⊢
    rw [if_pos rfl, if_pos rfl]
    obtain ⟨V, hV⟩ : ∃ V, (ixL ps r c L).getD 0 = V := ⟨_, rfl⟩
    obtain ⟨Q, hQ⟩ : ∃ Q : Int, (if (ixL ps r c L).isSome then 0 else 4) = Q := ⟨_, rfl⟩
    rw [hV, hQ]
    have HV := Lib.hid hV
    have HQ := Lib.hid hQ
    clear hV hQ
    go_enter Try.func17, Try.ntmps17
    go_wp2_with (go_at_call 55; refine (l14Size_any _ _).mono ?_; rintro e w' ⟨rfl, rfl⟩)
    (go_at_call 59; with_reducible refine (HP.out _).mono ?_; rintro e1 w1 ⟨v1, rfl, ho1, hb1⟩; obtain ⟨hc1, hf1⟩ := bcell hb1; have hB1 : Below w.heap.size w w1 := (below_then (by first | (go_grown; done) | (repeat (first | (with_reducible assumption) | (with_reducible exact Below.refl _ _) | (with_reducible refine below_drewN' ?_ _) | (with_reducible refine Below.drew ?_) | ((with_reducible refine Below.alloc ?_ ?_ _); rotate_left; focus (first | (simp; done) | (simp; omega) | omega)) | ((with_reducible refine Below.setCell ?_ ?_ _); rotate_left; focus (first | (simp; done) | (simp; omega) | omega))))) (by first | omega | (simp; done) | (simp; omega)) hb1); have hz1a : w.heap.size < w1.heap.size := (by have := hb1.size; first | omega | (simp at this; omega)))
    have HX := Lib.hid (blk_below (heap_alloc_new w (.cells #[.int .i64 r, .int .i64 c] 32)) hb1 (by simp))
    obtain ⟨A1, c1, rfl⟩ := ho1.shape0
    rw [HL.out] at ho1 ⊢
    have HO1 := Lib.hid ho1
    clear ho1 hc1 hf1
    go_wp2_with fail
    go_loopw [7] (fun i wr => ∃ k : Nat, k ≤ L ∧ i = .int .i64 k ∧ Hid (∀ j, j < k → eqP r c (nthP ps j) = false) ∧ Hid (Below w1.heap.size w1 wr))
      (fun i _ => L - (intOf i).toNat)
    case atStart => exact ⟨0, Nat.zero_le _, rfl, Lib.hid (fun j hj => absurd hj (by omega)), Lib.hid (Below.refl _ _)⟩
    case round =>
      obtain ⟨k, hk, rfl, hnone, hbel⟩ := hrel
      have hsr := hbel.out.size
      have hbw : Below w.heap.size w wr := hB1.trans (hbel.out.mono (by omega))
      by_cases hlt : k < L
      · obtain ⟨g, c', e', hB', hg', hc'⟩ := (HO1.out.keep hbel.out).cells (by rw [HL.out]; omega)
        simp only [Value.slice.injEq] at e'
        obtain ⟨rfl, -, -⟩ := e'
        obtain ⟨hck0, hck1⟩ := hc' k (by rw [HL.out]; exact hlt)
        have hXr := blk_below HX.out hbel.out hz1a
        have y0 : wr.cell? ⟨w.heap.size, 0, none⟩ = some (.int .i64 r) := by rw [cell_of_row _ _ 0 #[.int .i64 r, .int .i64 c] 32 (0, 0) hXr]; rfl
        have y1 : wr.cell? ⟨w.heap.size, 1, none⟩ = some (.int .i64 c) := by rw [cell_of_row _ _ 1 #[.int .i64 r, .int .i64 c] 32 (0, 0) hXr]; rfl
        have hbl : w.heap.size < wr.heap.size := by omega
        obtain ⟨pp, hpp⟩ : ∃ pp, nthP ps k = pp := ⟨_, rfl⟩
        rw [hpp] at hck0 hck1
        have HPP := Lib.hid hpp
        clear hc' hpp hXr
        obtain ⟨pr, pq⟩ := pp
        simp only at hck0 hck1
        by_cases e1 : pr = r
        · by_cases e2 : pq = c
          · subst e1 e2
            have hO := hfo.out k hlt (by rw [HPP.out]; exact eqP_iff.2 rfl)
            have HOO := Lib.hid hO
            clear hO
            have hq1 : (pr == pr) = true := by simp
            have hq2 : (pq == pq) = true := by simp
            go_wp2_with fail
            refine wp_region_qat [] 6 [] (by kernel_rfl) (by kernel_rfl) ?_
            intro hbc
            simp only [List.take_succ_cons, List.take_zero, List.drop_succ_cons, List.drop_zero]
            repeat (first
              | refine wpQ_pass rfl ?_
              | (refine wpQ_step rfl (fun K hK => ?_)
                 go_simp
                 first
                   | (refine hK _ ?_; clear hK K)))
            refine wpQ_nil ⟨?_, ?_⟩
            · exact rfl
            intro  w3 hb3 hF3
            clear hbc
            obtain ⟨hc3, hf3⟩ := bcell hb3
            have hB3 : Below w.heap.size w w3 := below_then (by first | (go_grown; done) | (repeat (first | (with_reducible assumption) | (with_reducible exact Below.refl _ _) | (with_reducible refine below_drewN' ?_ _) | (with_reducible refine Below.drew ?_) | ((with_reducible refine Below.alloc ?_ ?_ _); rotate_left; focus (first | (simp; done) | (simp; omega) | omega)) | ((with_reducible refine Below.setCell ?_ ?_ _); rotate_left; focus (first | (simp; done) | (simp; omega) | omega))))) (by first | (simp; done) | (simp; omega) | omega) hb3
            have hz3a : w.heap.size < w3.heap.size := (by have := hb3.size; first | omega | (simp at this; omega))
            clear hF3
            try simp only [Act.put, List.setIfInBounds_toArray, List.set_cons_succ, List.set_cons_zero]
            go_wp2_with fail
            go_returns
            have hVQ : V = k ∧ Q = 0 := ⟨by rw [← HV.out, HOO.out]; rfl, by rw [← HQ.out, HOO.out]; rfl⟩
            exact ⟨by rw [hVQ.1, hVQ.2]; simp, hB3⟩
          · have hne := Lib.hid (show eqP r c (nthP ps k) = false by
              rw [HPP.out]; cases h : eqP r c (pr, pq) with
              | false => rfl
              | true => have := eqP_iff.1 h; simp only [Prod.mk.injEq] at this; exact absurd this.2 e2)
            have hq2 : (pq == c) = false := by simpa using e2
            go_wp2_with fail
            refine wp_region_qat [] 6 [] (by kernel_rfl) (by kernel_rfl) ?_
            intro hbc
            simp only [List.take_succ_cons, List.take_zero, List.drop_succ_cons, List.drop_zero]
            repeat (first
              | refine wpQ_pass rfl ?_
              | (refine wpQ_step rfl (fun K hK => ?_)
                 go_simp
                 first
                   | (refine hK _ ?_; clear hK K)))
            refine wpQ_nil ⟨?_, ?_⟩
            · exact rfl
            intro  w3 hb3 hF3
            clear hbc
            obtain ⟨hc3, hf3⟩ := bcell hb3
            have hB3 : Below w.heap.size w w3 := below_then (by first | (go_grown; done) | (repeat (first | (with_reducible assumption) | (with_reducible exact Below.refl _ _) | (with_reducible refine below_drewN' ?_ _) | (with_reducible refine Below.drew ?_) | ((with_reducible refine Below.alloc ?_ ?_ _); rotate_left; focus (first | (simp; done) | (simp; omega) | omega)) | ((with_reducible refine Below.setCell ?_ ?_ _); rotate_left; focus (first | (simp; done) | (simp; omega) | omega))))) (by first | (simp; done) | (simp; omega) | omega) hb3
            have hz3a : w.heap.size < w3.heap.size := (by have := hb3.size; first | omega | (simp at this; omega))
            clear hF3
            try simp only [Act.put, List.setIfInBounds_toArray, List.set_cons_succ, List.set_cons_zero]
            have hbb := Lib.hid (hbel.out.trans (hb3.mono hsr))
            clear hc3 hf3 hck0 hck1 y0 y1
            go_wp2_with fail
            go_roundw
            case rel => refine ⟨k + 1, by omega, by go_num, ?_⟩; first | exact ⟨Lib.hid (fun j hj => if e : j = k then by rw [e]; exact hne.out else hnone.out j (by omega)), hbb⟩ | exact Lib.hid (fun j hj => if e : j = k then by rw [e]; exact hne.out else hnone.out j (by omega))
            case measure => simp [intOf]; omega
        · have hne := Lib.hid (show eqP r c (nthP ps k) = false by
            rw [HPP.out]; cases h : eqP r c (pr, pq) with
            | false => rfl
            | true => have := eqP_iff.1 h; simp only [Prod.mk.injEq] at this; exact absurd this.1 e1)
          have hq1 : (pr == r) = false := by simpa using e1
          go_wp2_with fail
          refine wp_region_qat [] 6 [] (by kernel_rfl) (by kernel_rfl) ?_
          intro hbc
          simp only [List.take_succ_cons, List.take_zero, List.drop_succ_cons, List.drop_zero]
          repeat (first
            | refine wpQ_pass rfl ?_
            | (refine wpQ_step rfl (fun K hK => ?_)
               go_simp
               first
                 | (refine hK _ ?_; clear hK K)))
          refine wpQ_nil ⟨?_, ?_⟩
          · exact rfl
          intro  w3 hb3 hF3
          clear hbc
          obtain ⟨hc3, hf3⟩ := bcell hb3
          have hB3 : Below w.heap.size w w3 := below_then (by first | (go_grown; done) | (repeat (first | (with_reducible assumption) | (with_reducible exact Below.refl _ _) | (with_reducible refine below_drewN' ?_ _) | (with_reducible refine Below.drew ?_) | ((with_reducible refine Below.alloc ?_ ?_ _); rotate_left; focus (first | (simp; done) | (simp; omega) | omega)) | ((with_reducible refine Below.setCell ?_ ?_ _); rotate_left; focus (first | (simp; done) | (simp; omega) | omega))))) (by first | (simp; done) | (simp; omega) | omega) hb3
          have hz3a : w.heap.size < w3.heap.size := (by have := hb3.size; first | omega | (simp at this; omega))
          clear hF3
          try simp only [Act.put, List.setIfInBounds_toArray, List.set_cons_succ, List.set_cons_zero]
          have hbb := Lib.hid (hbel.out.trans (hb3.mono hsr))
          clear hc3 hf3 hck0 hck1 y0 y1
          go_wp2_with fail
          go_roundw
          case rel => refine ⟨k + 1, by omega, by go_num, ?_⟩; first | exact ⟨Lib.hid (fun j hj => if e : j = k then by rw [e]; exact hne.out else hnone.out j (by omega)), hbb⟩ | exact Lib.hid (fun j hj => if e : j = k then by rw [e]; exact hne.out else hnone.out j (by omega))
          case measure => simp [intOf]; omega
      · obtain rfl : L = k := by omega
        have hO := hno.out hnone.out
        have HOO := Lib.hid hO
        clear hO
        go_wp2_with fail
        go_returns
        have hVQ : V = 0 ∧ Q = 4 := ⟨by rw [← HV.out, HOO.out]; rfl, by rw [← HQ.out, HOO.out]; rfl⟩
        exact ⟨by rw [hVQ.1, hVQ.2]; simp, hbw⟩
theorem toPlace_any (r c : Int) (w : World) : Calls Try.prog 67 #[.agg #[.int .i64 r, .int .i64 c]] w fun e w' => e = .returned (.agg #[.int .i64 r, .int .i64 c]) ∧ Below w.heap.size w w' := by
  go_enter Try.func67, Try.ntmps67
  go_wp2_with fail
  go_returns
  exact ⟨by simp, by (repeat (first | (with_reducible assumption) | (with_reducible exact Below.refl _ _) | (with_reducible refine below_drewN' ?_ _) | (with_reducible refine Below.drew ?_) | ((with_reducible refine Below.alloc ?_ ?_ _); rotate_left; focus (first | (simp; done) | (simp; omega) | omega)) | ((with_reducible refine Below.setCell ?_ ?_ _); rotate_left; focus (first | (simp; done) | (simp; omega) | omega))))⟩
end Go.Proofs.Yteghpageamehkaa
namespace Go.Proofs.Yteghpageamehkaa
open Go.RowKit

def Mkr.own (xs : List Int) : Mkr where
  R v lo hi w := Own w lo v xs ∧ ∀ k, v.ownBlock = some k → k < hi
  keep := fun ⟨h, hlt⟩ _ hb => by
    refine ⟨⟨h.1, ?_⟩, hlt⟩
    rcases h.2 with h' | ⟨g, cap, cur, rfl, hB, hg, hr⟩
    · exact .inl h'
    · exact .inr ⟨g, cap, cur, rfl, hB, (hb.block g (hlt g rfl)).trans hg, hr⟩
theorem own_call {P : Program} {f : FuncId} {args : Array Value} {w : World} {xs : List Int}
    (h : Calls P f args w fun e w' => ∃ v', e = .returned v' ∧ Own w' w.heap.size v' xs ∧ Below w.heap.size w w') :
    Calls P f args w fun e w' => ∃ u, e = .returned u ∧ Below w.heap.size w w' ∧ (Mkr.own xs).R u w.heap.size w'.heap.size w' :=
  h.mono fun _ _ ⟨v', h1, h2, h3⟩ => ⟨v', h1, h3, h2, fun k hk => (World.ownsRow.lt h2 k hk).2⟩
end Go.Proofs.Yteghpageamehkaa
namespace Go.Proofs.Yteghpageamehkaa
set_option linter.unusedSimpArgs false
open Go.ChangeShapes Go.WideShapes Go.ChangeAt Go.RowKit Go.Deep

theorem sq_like {N : Nat} {xs ys : List Int} (h : sqB N N xs = true) (hl : ys.length = xs.length) (ha : allIn (-1) 1 ys = true) : sqB N N ys = true := by
  simp only [sqB, gridB, Bool.and_eq_true] at h ⊢
  rw [hl]
  exact ⟨⟨⟨h.1.1.1, ha⟩, h.1.2⟩, h.2⟩
theorem mask_fact {r c d : Int} {xs : List Int} (h : amC r c xs d = 0) : ∃ N m : Nat, r = N ∧ c = N ∧ d = m ∧ m < 8 ∧ (17 ≤ N ∧ N ≤ 41 ∧ N % 4 = 1) ∧ xs.length = N * N ∧ sizeB (N : Int) = true ∧
    amN r c xs d = N ∧ (amL r c xs d).length = N * N ∧ amC N N (amL r c xs d) d = 0 ∧ amN N N (amL r c xs d) d = N ∧ amL N N (amL r c xs d) d = xs ∧
    ∀ R C : Nat, R < N → C < N → (nth (amL r c xs d) (R * N + C) != nth xs (R * N + C)) = (turnB m R C && (ixL (dataL N) R C (dataL N).length).isSome && decide (0 ≤ nth xs (R * N + C))) := by
  revert h
  unfold amC
  cases hs : sqB r c xs
  · simp
  cases hd : inR d 0 7
  · simp
  intro _
  obtain ⟨N, rfl, rfl, hN, hl, hal⟩ := sqB_true hs
  have hdr := inR_true hd
  obtain ⟨m, rfl⟩ := Int.eq_ofNat_of_zero_le hdr.1
  have hsz : sizeB (N : Int) = true := by simp only [sqB, Bool.and_eq_true] at hs; exact hs.2
  have e1 : amL N N xs m = mskL N m (dataL N) xs (dataL N).length := by unfold amL; rw [hs, hd]; rfl
  have e2 : amN N N xs m = N := by unfold amN; rw [hs, hd]; rfl
  have hml : (mskL N m (dataL N) xs (dataL N).length).length = xs.length := mskL_len _ _ _ _ _
  have hma := mskL_in (m := m) hal hl (data_in4 hN) _ (Nat.le_refl _)
  have hs2 := sq_like hs hml hma
  refine ⟨N, m, rfl, rfl, rfl, by omega, hN, hl, hsz, e2, ?_⟩
  rw [e1]
  refine ⟨by rw [hml, hl], ?_, ?_, ?_, fun R C hR hC => msk_turned hN hl hR hC⟩
  · rw [hs2]; rfl
  · unfold amN; rw [hs2, hd]; rfl
  · unfold amL; rw [hs2, hd]
    simp only [cond_true, Int.toNat_natCast]
    exact msk_twice hN hl hal
theorem likeG_eq (r c : Int) (A1 A2 : Option Addr) (n c1 c2 : Nat) (xs : List Int) (w : World) (B1 B2 : Nat) (hr1 : RI w B1 A1 n xs) (hr2 : RI w B2 A2 n xs) (hB1 : B1 ≤ w.heap.size) (hB2 : B2 ≤ w.heap.size) (hn : n ≤ 1000000000000) :
    Calls Try.prog 40 #[.agg #[.int .i64 r, .int .i64 c, .slice A1 n c1], .agg #[.int .i64 r, .int .i64 c, .slice A2 n c2]] w fun e w' => e = .returned (.bool true) ∧ Below w.heap.size w w' := by
  have HE := Lib.hid (fun (w' : World) (hb : Below w.heap.size w w') => likeInts_any A1 A2 n n c1 c2 xs xs w' w.heap.size w.heap.size ((hr1.more hB1).below hb) ((hr2.more hB2).below hb) hn hn)
  have hx : (xs == xs) = true := by simp
  have hr0 : (r == r) = true := by simp
  have hc0 : (c == c) = true := by simp
  clear hr1 hr2
  rw [hx] at HE
  clear hx
  go_enter Try.func40, Try.ntmps40
  go_wp2_with (go_at_call 42; refine (HE.out _ (by go_grown)).mono ?_; rintro e1 w1 ⟨rfl, m1, rfl⟩)
  go_ret
  exact ⟨rfl, below_drewN' (by go_grown) _⟩
set_option maxRecDepth 20000 in
set_option maxHeartbeats 40000000 in
theorem lawFnMasks (A : Option Addr) (n c : Nat) (bs : List Int) (w : World) (hr : RB w w.heap.size A n bs) :
    Calls Try.prog 10 #[.slice A n c] w fun e' w' => e' = .returned (.bool true) ∧ Below w.heap.size w w' := by
  have HR := Lib.hid hr
  clear hr
  by_cases hbig : 4096 < n
  · have hbd : decide (4096 < n) = true := decide_eq_true hbig
    go_enter Try.func10, Try.ntmps10
    go_wp2_with (go_at_call 11; go_call (big_any _ _ _ _) as e0 w0 ⟨rfl, hb0⟩; obtain ⟨hc0, hf0⟩ := bcell hb0; have hB0 : Below w.heap.size w w0 := (below_then (by first | (go_grown; done) | (repeat (first | (with_reducible assumption) | (with_reducible exact Below.refl _ _) | (with_reducible refine below_drewN' ?_ _) | (with_reducible refine Below.drew ?_) | ((with_reducible refine Below.alloc ?_ ?_ _); rotate_left; focus (first | (simp; done) | (simp; omega) | omega)) | ((with_reducible refine Below.setCell ?_ ?_ _); rotate_left; focus (first | (simp; done) | (simp; omega) | omega))))) (by first | omega | (simp; done) | (simp; omega)) hb0))
    go_ret
    exact ⟨rfl, by (repeat (first | (with_reducible assumption) | (with_reducible exact Below.refl _ _) | (with_reducible refine below_drewN' ?_ _) | (with_reducible refine Below.drew ?_) | ((with_reducible refine Below.alloc ?_ ?_ _); rotate_left; focus (first | (simp; done) | (simp; omega) | omega)) | ((with_reducible refine Below.setCell ?_ ?_ _); rotate_left; focus (first | (simp; done) | (simp; omega) | omega))))⟩
  · have hbd : decide (4096 < n) = false := decide_eq_false hbig
    have HD := Lib.hid (fun (w' : World) (hb : Below w.heap.size w w') => DrawApplyMask_any A n c bs w.heap.size w' (HR.out.below hb) hb.size (by omega))
    go_enter Try.func10, Try.ntmps10
    go_wp2_with first | (go_at_call 11; go_call (big_any _ _ _ _) as e0 w0 ⟨rfl, hb0⟩; obtain ⟨hc0, hf0⟩ := bcell hb0; have hB0 : Below w.heap.size w w0 := (below_then (by first | (go_grown; done) | (repeat (first | (with_reducible assumption) | (with_reducible exact Below.refl _ _) | (with_reducible refine below_drewN' ?_ _) | (with_reducible refine Below.drew ?_) | ((with_reducible refine Below.alloc ?_ ?_ _); rotate_left; focus (first | (simp; done) | (simp; omega) | omega)) | ((with_reducible refine Below.setCell ?_ ?_ _); rotate_left; focus (first | (simp; done) | (simp; omega) | omega))))) (by first | omega | (simp; done) | (simp; omega)) hb0))
    go_at_call 44
    with_reducible refine (HD.out _ hB0).mono ?_
    rintro e1 w1 ⟨u1, rfl, ⟨g, d, rfl, r, cc, v, xs, rfl, hx1, hx2, ho1⟩, hb1⟩
    have HB1 := Lib.hid (hB0.trans (hb1.mono hB0.size))
    obtain ⟨A1, c1, rfl, hr1⟩ := ho1.shape
    obtain ⟨T, hT⟩ : ∃ T, xs.length = T := ⟨_, rfl⟩
    rw [hT] at hx1 hx2 hr1 ⊢
    have HT := Lib.hid hT
    have hs1 := HB1.out.size
    have hle := amL_le r cc xs d
    have P1 := fun (w : World) (B : Nat) (hr : RI w B A1 T xs) (hB : B ≤ w.heap.size) => ApplyMask_any r cc A1 T c1 xs d w B hr hB (by omega)
    have P2 := fun (w : World) (B : Nat) (hr : RI w B A1 T xs) (hB : B ≤ w.heap.size) => sApplyMask_any r cc A1 T c1 xs d w B hr hB (by omega)
    have hpf := Lib.hid (fun h => mask_fact (r := r) (c := cc) (d := d) (xs := xs) h)
    generalize amL r cc xs d = ys at hle P1 P2 hpf
    generalize amN r cc xs d = NN at P1 P2 hpf
    generalize amC r cc xs d = C at P1 P2 hpf
    obtain ⟨L, hL⟩ : ∃ L, ys.length = L := ⟨_, rfl⟩
    rw [hL] at hle
    have HL := Lib.hid hL
    have HP1 := Lib.hid P1
    have HP2 := Lib.hid P2
    have h1 : (C != C) = false := by simp
    have HX1 : Hid ((w1.alloc (.cells #[.int .i64 r, .int .i64 cc, .slice A1 T c1] 37)).heap[w1.heap.size]? = some (.cells #[.int .i64 r, .int .i64 cc, .slice A1 T c1] 37 (0, 0))) := Lib.hid (heap_alloc_new _ _)
    have HR1 := Lib.hid (hr1.alloc (Nat.le_refl _) (.cells #[.int .i64 r, .int .i64 cc, .slice A1 T c1] 37))
    have HB1' := Lib.hid (HB1.out.alloc hs1 (.cells #[.int .i64 r, .int .i64 cc, .slice A1 T c1] 37))
    clear hb0 hb1 hB0 hc0 hf0 P1 P2 hL hT hr1 ho1
    go_wp2_with fail
    go_at_call 38
    with_reducible refine (HP1.out _ _ HR1.out (by simp)).mono ?_
    rintro e2 w2 ⟨u2, rfl, ho2, hb2⟩
    obtain ⟨A2, c2, rfl, hr2⟩ := ho2.shape
    rw [HL.out] at hr2 ⊢
    have hs2 := hb2.size
    simp only [World.size_alloc] at hs2
    have HX2 := Lib.hid (blk_alloc (u := .cells #[.int .i64 NN, .int .i64 NN, .slice A2 L c2] 37) (blk_below HX1.out hb2 (by simp)) (by omega))
    have HY2 : Hid ((w2.alloc (.cells #[.int .i64 NN, .int .i64 NN, .slice A2 L c2] 37)).heap[w2.heap.size]? = some (.cells #[.int .i64 NN, .int .i64 NN, .slice A2 L c2] 37 (0, 0))) := Lib.hid (heap_alloc_new _ _)
    have HR12 := Lib.hid ((HR1.out.below (hb2.mono (by simp))).alloc (by omega) (.cells #[.int .i64 NN, .int .i64 NN, .slice A2 L c2] 37))
    have HR22 := Lib.hid (hr2.alloc (Nat.le_refl _) (.cells #[.int .i64 NN, .int .i64 NN, .slice A2 L c2] 37))
    have HB2 := Lib.hid ((HB1'.out.trans (hb2.mono (by simp; omega))).alloc (by omega) (.cells #[.int .i64 NN, .int .i64 NN, .slice A2 L c2] 37))
    clear ho2 hr2 hb2
    obtain ⟨a0, a1, a2, -⟩ := blk3 HX2.out
    go_wp2_with fail
    go_at_call 37
    with_reducible refine (HP2.out _ _ HR12.out (by simp; omega)).mono ?_
    rintro e3 w3 ⟨u3, rfl, ho3, hb3⟩
    obtain ⟨A3, c3, rfl, hr3⟩ := ho3.shape
    rw [HL.out] at hr3 ⊢
    have hs3 := hb3.size
    simp only [World.size_alloc] at hs3
    have HX3 := Lib.hid (blk_alloc (u := .cells #[.int .i64 NN, .int .i64 NN, .slice A3 L c3] 37) (blk_below HX2.out hb3 (by simp; omega)) (by omega))
    have HY3 := Lib.hid (blk_alloc (u := .cells #[.int .i64 NN, .int .i64 NN, .slice A3 L c3] 37) (blk_below HY2.out hb3 (by simp)) (by omega))
    have HZ3 : Hid ((w3.alloc (.cells #[.int .i64 NN, .int .i64 NN, .slice A3 L c3] 37)).heap[w3.heap.size]? = some (.cells #[.int .i64 NN, .int .i64 NN, .slice A3 L c3] 37 (0, 0))) := Lib.hid (heap_alloc_new _ _)
    have HR13 := Lib.hid ((HR12.out.below (hb3.mono (by simp; omega))).alloc (by omega) (.cells #[.int .i64 NN, .int .i64 NN, .slice A3 L c3] 37))
    have HR23 := Lib.hid ((HR22.out.below (hb3.mono (by simp))).alloc (by omega) (.cells #[.int .i64 NN, .int .i64 NN, .slice A3 L c3] 37))
    have HR33 := Lib.hid (hr3.alloc (Nat.le_refl _) (.cells #[.int .i64 NN, .int .i64 NN, .slice A3 L c3] 37))
    have HB3 := Lib.hid ((HB2.out.trans (hb3.mono (by simp; omega))).alloc (by omega) (.cells #[.int .i64 NN, .int .i64 NN, .slice A3 L c3] 37))
    clear ho3 hr3 hb3 a0 a1 a2
    obtain ⟨a0, a1, a2, -⟩ := blk3 HY3.out
    obtain ⟨b0, b1, b2, -⟩ := blk3 HZ3.out
    go_wp2_with fail
    go_at_call 40
    with_reducible refine (likeG_eq NN NN A2 A3 L c2 c3 ys _ _ _ HR23.out HR33.out (by simp; omega) (by simp) (by omega)).mono ?_
    rintro e4 w4 ⟨rfl, hb4⟩
    have hs4 := hb4.size
    simp only [World.size_alloc] at hs4
    have HX4 := Lib.hid (blk_below HX3.out hb4 (by simp; omega))
    have HY4 := Lib.hid (blk_below HY3.out hb4 (by simp; omega))
    have HR14 := Lib.hid (HR13.out.below (hb4.mono (by simp; omega)))
    have HR24 := Lib.hid (HR23.out.below (hb4.mono (by simp; omega)))
    have HB4 := Lib.hid (HB3.out.trans (hb4.mono (by simp; omega)))
    clear hb4 a0 a1 a2 b0 b1 b2
    by_cases hC : C = 0
    · subst hC
      obtain ⟨N, m, rfl, rfl, rfl, hm, hN, hxl, hsz, rfl, hyl, f1, f2, f3, hturn⟩ := hpf.out rfl
      have hTN : T = N * N := by rw [← HT.out, hxl]
      have hLN : L = N * N := by rw [← HL.out, hyl]
      have hTL : L = T := by omega
      subst hTL
      have P3 := fun (w : World) (B : Nat) (hr : RI w B A2 L ys) (hB : B ≤ w.heap.size) => ApplyMask_any N N A2 L c2 ys m w B hr hB (by omega)
      rw [f1, f2, f3] at P3
      have HP3 := Lib.hid P3
      have HTN := Lib.hid hTN
      have HTU := Lib.hid hturn
      have HSZ := Lib.hid hsz
      have HN := Lib.hid hN
      obtain ⟨hN1, hN2, -⟩ := hN
      clear hpf hxl hyl f1 f2 f3 P3 hturn h1 hTN hLN hsz
      obtain ⟨a0, a1, a2, -⟩ := blk3 HY4.out
      go_wp2_with fail
      go_at_call 38
      with_reducible refine (HP3.out _ _ HR24.out (by omega)).mono ?_
      rintro e5 w5 ⟨u5, rfl, ho5, hb5⟩
      obtain ⟨A5, c5, rfl, hr5⟩ := ho5.shape
      rw [HT.out] at hr5 ⊢
      have hs5 := hb5.size
      have HX5 := Lib.hid (blk_alloc (u := .cells #[.int .i64 N, .int .i64 N, .slice A5 L c5] 37) (blk_below HX4.out hb5 (by omega)) (by omega))
      have HY5 := Lib.hid (blk_alloc (u := .cells #[.int .i64 N, .int .i64 N, .slice A5 L c5] 37) (blk_below HY4.out hb5 (by omega)) (by omega))
      have HV5 : Hid ((w5.alloc (.cells #[.int .i64 N, .int .i64 N, .slice A5 L c5] 37)).heap[w5.heap.size]? = some (.cells #[.int .i64 N, .int .i64 N, .slice A5 L c5] 37 (0, 0))) := Lib.hid (heap_alloc_new _ _)
      have HR15 := Lib.hid ((HR14.out.below (hb5.mono (by omega))).alloc (by omega) (.cells #[.int .i64 N, .int .i64 N, .slice A5 L c5] 37))
      have HR25 := Lib.hid ((HR24.out.below (hb5.mono (by omega))).alloc (by omega) (.cells #[.int .i64 N, .int .i64 N, .slice A5 L c5] 37))
      have HR55 := Lib.hid (hr5.alloc (Nat.le_refl _) (.cells #[.int .i64 N, .int .i64 N, .slice A5 L c5] 37))
      have HB5 := Lib.hid ((HB4.out.trans (hb5.mono (by omega))).alloc (by omega) (.cells #[.int .i64 N, .int .i64 N, .slice A5 L c5] 37))
      clear ho5 hr5 hb5 a0 a1 a2
      obtain ⟨a0, a1, a2, -⟩ := blk3 HX5.out
      obtain ⟨b0, b1, b2, -⟩ := blk3 HV5.out
      go_wp2_with fail
      go_at_call 40
      with_reducible refine (likeG_eq N N A5 A1 L c5 c1 xs _ _ _ HR55.out HR15.out (by simp) (by simp; omega) (by omega)).mono ?_
      rintro e6 w6 ⟨rfl, hb6⟩
      have hs6 := hb6.size
      simp only [World.size_alloc] at hs6
      have HX6 := Lib.hid (blk_below HX5.out hb6 (by simp; omega))
      have HY6 := Lib.hid (blk_below HY5.out hb6 (by simp; omega))
      have HR16 := Lib.hid (HR15.out.below (hb6.mono (by simp; omega)))
      have HR26 := Lib.hid (HR25.out.below (hb6.mono (by simp; omega)))
      have HB6 := Lib.hid (HB5.out.trans (hb6.mono (by simp; omega)))
      have HRB6 := Lib.hid (HR.out.below HB6.out)
      clear hb6 a0 a1 a2 b0 b1 b2
      go_wp2_with fail
      go_at_call 45
      with_reducible refine (roll_any A n c bs 1601 _ w.heap.size HRB6.out (by omega) (by omega) (by omega) (by omega)).mono ?_
      rintro e7 w7 ⟨rfl, hdw, hb7⟩
      have hs7 := hb7.size
      have HX7 := Lib.hid (blk_below HX6.out hb7 (by omega))
      have HY7 := Lib.hid (blk_below HY6.out hb7 (by omega))
      have HR17 := Lib.hid (HR16.out.below (hb7.mono (by omega)))
      have HR27 := Lib.hid (HR26.out.below (hb7.mono (by omega)))
      have HB7 := Lib.hid (HB6.out.trans (hb7.mono (by omega)))
      have HRB7 := Lib.hid (HRB6.out.below (hb7.mono (by omega)))
      have HDW := Lib.hid hdw
      clear hb7 hdw
      obtain ⟨a0, a1, a2, -⟩ := blk3 HX7.out
      go_wp2_with fail
      go_at_call 46
      with_reducible refine (dice_below_any w6.heap.size A n c bs L _ w.heap.size HDW.out HRB7.out (by omega) (by omega) (by omega) (by omega)).mono ?_
      rintro e8 w8 ⟨rv, rfl, hv0, hv1, -, hg8⟩
      have hs8 := hg8.size
      have hne : ∀ q, w6.heap.size = q → ¬ q < w6.heap.size := fun q e => by omega
      have HX8 := Lib.hid ((hg8.block w1.heap.size (by omega) (by simp; omega)).trans HX7.out)
      have HY8 := Lib.hid ((hg8.block w2.heap.size (by omega) (by simp; omega)).trans HY7.out)
      have HR18 := Lib.hid (HR17.out.grown hg8 (by omega) (fun q hq => by have : w6.heap.size = q := by simpa using hq
                                                                          omega))
      have HR28 := Lib.hid (HR27.out.grown hg8 (by omega) (fun q hq => by have : w6.heap.size = q := by simpa using hq
                                                                          omega))
      have HB8 := Lib.hid (HB7.out.grown hg8 (by omega) (fun q hq => by have : w6.heap.size = q := by simpa using hq
                                                                        omega))
      clear hg8 hne a0 a1 a2
      obtain ⟨K, rfl⟩ := Int.eq_ofNat_of_zero_le hv0
      have hK : K < L := by omega
      obtain ⟨Q, hQ⟩ : ∃ Q, K / N = Q := ⟨_, rfl⟩
      obtain ⟨R, hR⟩ : ∃ R, K % N = R := ⟨_, rfl⟩
      have hqw : IntKind.i64.wrap ((K : Int) / N) = (Q : Int) := by rw [← Int.natCast_ediv, hQ]; exact i64_in (by have := Nat.div_le_self K N; omega)
      have hrt : (K : Int).tmod N = (R : Int) := by rw [Int.tmod_eq_emod_of_nonneg (by omega), ← Int.natCast_emod, hR]
      have hRN : R < N := by rw [← hR]; exact Nat.mod_lt _ (by omega)
      have hQN : Q < N := by rw [← hQ]; exact (Nat.div_lt_iff_lt_mul (by omega)).2 (by rw [← HTN.out]; exact hK)
      have hKK : Q * N + R = K := by rw [← hQ, ← hR, Nat.mul_comm]; exact Nat.div_add_mod K N
      have hN0 : ¬ N = 0 := by omega
      have htu := HTU.out Q R hQN hRN
      rw [hKK] at htu
      have hpc : piC N Q R = if (ixL (dataL N) Q R (dataL N).length).isSome then 0 else 4 := by unfold piC; rw [if_pos HSZ.out, Int.toNat_natCast]
      have HPI := Lib.hid (fun w => PlaceIndex_any N Q R w (by unfold I64; omega) (by unfold I64; omega))
      have HMT := Lib.hid (fun w => MaskTurns_any m Q R w hm (by omega) (by omega))
      rw [hpc] at HPI
      generalize piV N Q R = PV at HPI
      generalize (ixL (dataL N) Q R (dataL N).length).isSome = pb at htu HPI hpc
      generalize turnB m Q R = tb at htu HMT
      obtain ⟨g1, o1, rfl, hg1, hcl1⟩ := HR18.out.cells (by omega)
      obtain ⟨g2, o2, rfl, hg2, hcl2⟩ := HR28.out.cells (by omega)
      have hck1 := hcl1 K hK
      have hck2 := hcl2 K hK
      have HCK1 := Lib.hid hck1
      have HCK2 := Lib.hid hck2
      generalize nth xs K = x at htu HCK1
      generalize nth ys K = y at htu HCK2
      obtain ⟨a0, a1, a2, -⟩ := blk3 HX8.out
      obtain ⟨PC, hPC⟩ : ∃ PC : Int, (if pb = true then (0 : Int) else 4) = PC := ⟨_, rfl⟩
      rw [hPC] at HPI
      have HPC := Lib.hid hPC
      have hz16 : w1.heap.size < w8.heap.size := by omega
      have hz26 : w2.heap.size < w8.heap.size := by omega
      have hzg1 : g1 < w8.heap.size := by omega
      have hzg2 : g2 < w8.heap.size := by omega
      have HTUV := Lib.hid htu
      clear hQ hR hQN hRN hKK hcl1 hcl2 hck1 hck2 hpc hPC htu hg1 hg2 hv0
      have hB8 := HB8.out
      go_wp2_with fail
      refine wp_region_qat [] 17 [] (by kernel_rfl) (by kernel_rfl) ?_
      intro hbc
      simp only [List.take_succ_cons, List.take_zero, List.drop_succ_cons, List.drop_zero]
      repeat (first
        | refine wpQ_pass rfl ?_
        | (refine wpQ_step rfl (fun K hK => ?_)
           go_simp
           first
             | (refine hK _ ?_; clear hK K)
             | (apply Exists.intro
                refine ⟨fun z => ?_, ?_⟩
                focus (first | (go_at_call 15; exact HPI.out _))
                refine hK _ ?_
                clear hK K)))
      refine wpQ_nil ⟨?_, ?_⟩
      · exact rfl
      intro  w9 hb9 hF9
      clear hbc
      obtain ⟨hc9, hf9⟩ := bcell hb9
      have hB9 : Below w.heap.size w w9 := below_then (by first | (go_grown; done) | (repeat (first | (with_reducible assumption) | (with_reducible exact Below.refl _ _) | (with_reducible refine below_drewN' ?_ _) | (with_reducible refine Below.drew ?_) | ((with_reducible refine Below.alloc ?_ ?_ _); rotate_left; focus (first | (simp; done) | (simp; omega) | omega)) | ((with_reducible refine Below.setCell ?_ ?_ _); rotate_left; focus (first | (simp; done) | (simp; omega) | omega))))) (by first | (simp; done) | (simp; omega) | omega) hb9
      have hz9a : w1.heap.size < w9.heap.size := (by have := hb9.size; first | omega | (simp at this; omega))
      have hz9b : w2.heap.size < w9.heap.size := (by have := hb9.size; first | omega | (simp at this; omega))
      have hz9c : g1 < w9.heap.size := (by have := hb9.size; first | omega | (simp at this; omega))
      have hz9d : g2 < w9.heap.size := (by have := hb9.size; first | omega | (simp at this; omega))
      clear hF9
      try simp only [Act.put, List.setIfInBounds_toArray, List.set_cons_succ, List.set_cons_zero]
      have HX9 := Lib.hid (blk_below HX8.out hb9 hz16)
      have HY9 := Lib.hid (blk_below HY8.out hb9 hz26)
      have hk1 := (hc9 _ _ hzg1).trans HCK1.out
      have hk2 := (hc9 _ _ hzg2).trans HCK2.out
      have HK1 := Lib.hid hk1
      have HK2 := Lib.hid hk2
      have HB9 := Lib.hid hB9
      clear hk1 hk2 hc9 hf9 hb9 hB8 hB9 a0 a1 a2
      have hB9 := HB9.out
      cases tb <;> cases pb <;> by_cases hx0 : 0 ≤ x
      all_goals
        have hyx := HTUV.out
        have hpcv := HPC.out
        first
          | (have hxd : decide (0 ≤ x) = true := decide_eq_true hx0
             rw [hxd] at hyx)
          | (have hxd : decide (0 ≤ x) = false := decide_eq_false hx0
             rw [hxd] at hyx)
        simp only [Bool.false_and, Bool.true_and, Bool.and_false, Bool.and_true, if_true, if_false, reduceCtorEq] at hyx hpcv
        subst hpcv
        obtain ⟨a0, a1, a2, -⟩ := blk3 HX9.out
        obtain ⟨b0, b1, b2, -⟩ := blk3 HY9.out
        have hk1 := HK1.out
        have hk2 := HK2.out
        go_wp2_with fail
        refine wp_region_qat [] 23 [] (by kernel_rfl) (by kernel_rfl) ?_
        intro hbc
        simp only [List.take_succ_cons, List.take_zero, List.drop_succ_cons, List.drop_zero]
        repeat (first
          | refine wpQ_pass rfl ?_
          | (refine wpQ_step rfl (fun K hK => ?_)
             go_simp
             first
               | (refine hK _ ?_; clear hK K)
               | (apply Exists.intro
                  refine ⟨fun z => ?_, ?_⟩
                  focus (first | (go_at_call 47; exact HMT.out _))
                  refine hK _ ?_
                  clear hK K)))
        refine wpQ_nil ⟨?_, ?_⟩
        · exact rfl
        intro  w10 hb10 hF10
        clear hbc
        obtain ⟨hc10, hf10⟩ := bcell hb10
        have hB10 : Below w.heap.size w w10 := below_then (by first | (go_grown; done) | (repeat (first | (with_reducible assumption) | (with_reducible exact Below.refl _ _) | (with_reducible refine below_drewN' ?_ _) | (with_reducible refine Below.drew ?_) | ((with_reducible refine Below.alloc ?_ ?_ _); rotate_left; focus (first | (simp; done) | (simp; omega) | omega)) | ((with_reducible refine Below.setCell ?_ ?_ _); rotate_left; focus (first | (simp; done) | (simp; omega) | omega))))) (by first | (simp; done) | (simp; omega) | omega) hb10
        clear hF10
        try simp only [Act.put, List.setIfInBounds_toArray, List.set_cons_succ, List.set_cons_zero]
        have k1 := (hc10 _ _ hz9c).trans HK1.out
        have k2 := (hc10 _ _ hz9d).trans HK2.out
        obtain ⟨a0, a1, a2, -⟩ := blk3 (blk_below HX9.out hb10 hz9a)
        obtain ⟨b0, b1, b2, -⟩ := blk3 (blk_below HY9.out hb10 hz9b)
        clear hk1 hk2 hc10 hf10 hb10
        go_wp2_with fail
        go_quiet (fail)
        go_wp2_with fail
        go_ret
        exact ⟨by simp, below_drewN' hB10 _⟩
    · have hC' : (C != 0) = true := by simpa using hC
      go_wp2_with fail
      go_ret
      exact ⟨rfl, HB4.out⟩
set_option maxRecDepth 100000 in
theorem lifted_FnMasks (os : Os) (started : os.Started) (H : Type) (enc : TypeId × Value → H) :
    ReturnsInHanded {} Try.checked os 10 .any (Rows.fnMasksSpec.pre6 enc Try.prog Try.f10 Rows.fnMasksRow.domain false) (Rows.fnMasksSpec.post enc Try.prog Try.f10 false true false false) := by
  refine law_lifted (C := Try.checked) (tb := 4) own started (by kernel_rfl) Try.func10
    (ChangeSpec.witness6 (enc := enc) (C := Try.checked) false ⟨#[], #[.slice none 0 0], []⟩ 8 (by kernel_rfl) (by kernel_rfl) (by kernel_rfl) (by kernel_rfl))
    laidOut (by kernel_rfl) rfl rfl Try.underlying4 ?_ ?_
  · intro ds hd
    match ds, hd with
    | [e0], _ => rfl
  · intro W base args ds p hval hA hlt hsz
    have hval1 : ∀ (j : Nat) t v, Try.f10.params[j]? = some t → args[j]? = some v → Value.okWide Try.prog W .any base t v := hval
    have hA1 : DataW.TrodAll enc Try.prog W 0 (fun _ => true) true Try.f10.params.toList args.toList ds p := hA
    have hsz1 : (DataW.weightsEach Try.prog Try.f10.params.toList ds).all (· ≤ reachBytes) = true := hsz
    rw [Try.params10] at hval1 hA1 hsz1
    clear hval hA hsz
    obtain ⟨v0, d0, rfl, rfl, h0⟩ := trodAll_one hA1
    obtain ⟨A, n, c, bs, rfl, hr, _⟩ := arg_bytes Try.underlying22 Try.underlying5 (by kernel_rfl) (hval1 0 22 v0 rfl rfl) h0 (fun x hx => hlt x (by simp [hx]))
    exact lawFnMasks A n c bs W hr
theorem holds_FnMasks : Rows.FnMasksSaid :=
  OpenClaim.holds_of_wide 10 Try.f10 rfl rfl rfl rfl rfl rfl rfl ⟨rfl, rfl, rfl, rfl, rfl⟩ rfl rfl rfl rfl rfl (by kernel_rfl) Try.func10 (by kernel_rfl)
    (of_decide_eq_true (by kernel_rfl)) (by unfold Func.isWrapper; first | (rw [if_pos (by decide +kernel)]; kernel_rfl) | (rw [if_neg (by decide +kernel)]; exact ⟨rfl, rfl⟩))
    (fun os started H enc _ => lifted_FnMasks os started H enc)

end Go.Proofs.Yteghpageamehkaa
