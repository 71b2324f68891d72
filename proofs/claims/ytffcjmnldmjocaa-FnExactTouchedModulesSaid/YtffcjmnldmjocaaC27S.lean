/-
  Contracts of chapter 27: the reference's valid damages.
-/
import Derived.Test.YtffcjmnldmjocaaC27
import Derived.Test.YtffcjmnldmjocaaRegion
namespace Go.Proofs.Ytffcjmnldmjocaa
open Go.RowKit

def fldB (k : Int) : List Bool := if k = 1 then [true, true, true, false, true] else if k = 2 then [true, true, true, true, true] else if k = 3 then [false, false, true, true, true] else if k = 4 then [true, false, true, false, true] else [false, false, true, false, true]
theorem fldB_len (k : Int) : (fldB k).length = 5 := by unfold fldB; repeat (first | rfl | split)
def nthB (fs : List Bool) (n : Nat) : Bool := fs.getD n false
theorem fldB_cell (k : Int) {n : Nat} (h : n < 5) : ((fldB k).map Value.bool)[n]? = some (.bool (nthB (fldB k) n)) := by
  have hl := fldB_len k
  rw [List.getElem?_map, List.getElem?_eq_getElem (by omega)]
  simp [nthB, List.getD, List.getElem?_eq_getElem (show n < (fldB k).length by omega)]
/-- Field number n is as it must be. -/
def okAt (k : Int) (xs : List Int) (n : Nat) : Bool :=
  !((!nthB (fldB k) n && nth xs n != 0) || !inR (nth xs n) (-400) 400 || (decide (nth xs n < 0) && (n != 3 || k != 3)))
def lastB (k t v : Int) : Bool := if k = 2 then decide (1 ≤ t) && decide (1 ≤ v) else if k = 3 then decide (1 ≤ t) else if k = 5 then decide (t ≤ 256) else true
theorem isDamage_ok {k r c t v g : Int} (hk : inR k 1 5 = true) (hg : inR g 0 255 = true) :
    isDamageB k r c t v g = (okAt k [r, c, t, v, g] 0 && okAt k [r, c, t, v, g] 1 && okAt k [r, c, t, v, g] 2 && okAt k [r, c, t, v, g] 3 && lastB k t v) := by
  have h := inR_true hk
  have h' := inR_true hg
  rcases (show k = 1 ∨ k = 2 ∨ k = 3 ∨ k = 4 ∨ k = 5 by omega) with rfl | rfl | rfl | rfl | rfl <;>
    simp only [isDamageB, okAt, lastB, nthB, fldB, blotB, scratchB, skewB, noiseB, fadeB, nth, inR, List.getD_cons_zero, List.getD_cons_succ] <;> (rw [Bool.eq_iff_iff]; simp; try omega)
theorem isDamage_no1 {k r c t v g : Int} (hk : inR k 1 5 = false) : isDamageB k r c t v g = false := by unfold isDamageB; rw [hk]; rfl
theorem isDamage_no2 {k r c t v g : Int} (hg : inR g 0 255 = false) : isDamageB k r c t v g = false := by unfold isDamageB; rw [hg]; simp
theorem isDamage_no3 {k r c t v g : Int} {n : Nat} (hk : inR k 1 5 = true) (hg : inR g 0 255 = true) (hn : n < 4) (ho : okAt k [r, c, t, v, g] n = false) : isDamageB k r c t v g = false := by
  rw [isDamage_ok hk hg]
  rcases (show n = 0 ∨ n = 1 ∨ n = 2 ∨ n = 3 by omega) with rfl | rfl | rfl | rfl <;> rw [ho] <;> simp
theorem isDamage_yes {k r c t v g : Int} (hk : inR k 1 5 = true) (hg : inR g 0 255 = true) (h : ∀ n, n < 4 → okAt k [r, c, t, v, g] n = true) : isDamageB k r c t v g = lastB k t v := by
  rw [isDamage_ok hk hg, h 0 (by omega), h 1 (by omega), h 2 (by omega), h 3 (by omega)]; simp

set_option maxHeartbeats 400000 in
theorem l27Fields_any (k : Int) (w : World) :
    Calls Try.prog 29 #[.int .i64 k] w fun e w' => ∃ A, e = .returned (.slice A 5 5) ∧ RV w' w'.heap.size A 5 ((fldB k).map Value.bool) ∧ Below w.heap.size w w' := by
  have hf : fldB k = if k = 1 then [true, true, true, false, true] else if k = 2 then [true, true, true, true, true] else if k = 3 then [false, false, true, true, true] else if k = 4 then [true, false, true, false, true] else [false, false, true, false, true] := rfl
  have HF := Lib.hid hf
  clear hf
  go_enter Try.func29, Try.ntmps29
  go_wp2
  all_goals
    go_ret
    exact ⟨_, rfl, RV.made0 (by rw [HF.out]; clear HF; simp_all) (by rw [List.length_map, fldB_len]) (by simp), by (repeat (first | (with_reducible assumption) | (with_reducible exact Below.refl _ _) | (with_reducible refine below_drewN' ?_ _) | (with_reducible refine Below.drew ?_) | ((with_reducible refine Below.alloc ?_ ?_ _); rotate_left; focus (first | (simp; done) | (simp; omega) | omega)) | ((with_reducible refine Below.setCell ?_ ?_ _); rotate_left; focus (first | (simp; done) | (simp; omega) | omega))))⟩
set_option maxHeartbeats 400000 in
theorem l27List_any (k r c t v g : Int) (w : World) :
    Calls Try.prog 30 #[.agg #[.int .i64 k, .int .i64 r, .int .i64 c, .int .i64 t, .int .i64 v, .int .i64 g]] w fun e w' => ∃ A, e = .returned (.slice A 5 5) ∧ RI w' w'.heap.size A 5 [r, c, t, v, g] ∧ Below w.heap.size w w' := by
  go_enter Try.func30, Try.ntmps30
  go_wp2
  go_ret
  exact ⟨_, rfl, RI.made0 rfl rfl (by simp), by (repeat (first | (with_reducible assumption) | (with_reducible exact Below.refl _ _) | (with_reducible refine below_drewN' ?_ _) | (with_reducible refine Below.drew ?_) | ((with_reducible refine Below.alloc ?_ ?_ _); rotate_left; focus (first | (simp; done) | (simp; omega) | omega)) | ((with_reducible refine Below.setCell ?_ ?_ _); rotate_left; focus (first | (simp; done) | (simp; omega) | omega))))⟩
theorem l20Grey_any (g : Int) (w : World) : Calls Try.prog 28 #[.int .i64 g] w fun e w' => e = .returned (.bool (inR g 0 255)) ∧ w = w' := by
  go_enter Try.func28, Try.ntmps28
  go_wp2_with (go_at_call 27; refine (l01In_any _ _ _ _).mono ?_; rintro e w' ⟨rfl, rfl⟩)
  go_ret
  exact ⟨rfl, rfl⟩
set_option maxRecDepth 100000 in
set_option maxHeartbeats 2000000 in
theorem sIsDamage_any (k r c t v g : Int) (w : World) :
    Calls Try.prog 7 #[.agg #[.int .i64 k, .int .i64 r, .int .i64 c, .int .i64 t, .int .i64 v, .int .i64 g]] w fun e w' => e = .returned (.bool (isDamageB k r c t v g)) ∧ Below w.heap.size w w' := by
  cases hk : inR k 1 5
  · rw [isDamage_no1 hk]
    go_enter Try.func7, Try.ntmps7
    go_wp2_with first | (go_at_call 27; refine (l01In_any _ _ _ _).mono ?_; rintro e w' ⟨rfl, rfl⟩) | (go_at_call 28; refine (l20Grey_any _ _).mono ?_; rintro e w' ⟨rfl, rfl⟩)
    all_goals (go_ret; exact ⟨rfl, by (repeat (first | (with_reducible assumption) | (with_reducible exact Below.refl _ _) | (with_reducible refine below_drewN' ?_ _) | (with_reducible refine Below.drew ?_) | ((with_reducible refine Below.alloc ?_ ?_ _); rotate_left; focus (first | (simp; done) | (simp; omega) | omega)) | ((with_reducible refine Below.setCell ?_ ?_ _); rotate_left; focus (first | (simp; done) | (simp; omega) | omega))))⟩)
  · cases hg : inR g 0 255
    · rw [isDamage_no2 hg]
      go_enter Try.func7, Try.ntmps7
      go_wp2_with first | (go_at_call 27; refine (l01In_any _ _ _ _).mono ?_; rintro e w' ⟨rfl, rfl⟩) | (go_at_call 28; refine (l20Grey_any _ _).mono ?_; rintro e w' ⟨rfl, rfl⟩)
      all_goals (go_ret; exact ⟨rfl, by (repeat (first | (with_reducible assumption) | (with_reducible exact Below.refl _ _) | (with_reducible refine below_drewN' ?_ _) | (with_reducible refine Below.drew ?_) | ((with_reducible refine Below.alloc ?_ ?_ _); rotate_left; focus (first | (simp; done) | (simp; omega) | omega)) | ((with_reducible refine Below.setCell ?_ ?_ _); rotate_left; focus (first | (simp; done) | (simp; omega) | omega))))⟩)
    · obtain ⟨xs, hxs⟩ : ∃ xs, xs = [r, c, t, v, g] := ⟨_, rfl⟩
      have HX := Lib.hid hxs
      clear hxs
      go_enter Try.func7, Try.ntmps7
      go_wp2_with first | (go_at_call 27; refine (l01In_any _ _ _ _).mono ?_; rintro e w' ⟨rfl, rfl⟩) | (go_at_call 28; refine (l20Grey_any _ _).mono ?_; rintro e w' ⟨rfl, rfl⟩)
      refine wp_region_qat [18, 20] 5 [Mkr.vals 5 ((fldB k).map Value.bool), Mkr.ints 5 [r, c, t, v, g]] (by kernel_rfl) (by kernel_rfl) ?_
      intro hbc
      simp only [List.take_succ_cons, List.take_zero, List.drop_succ_cons, List.drop_zero]
      repeat (first
        | refine wpQ_pass rfl ?_
        | (refine wpQ_step rfl (fun K hK => ?_)
           go_simp
           first
             | (refine hK _ ?_; clear hK K)))
      refine wpQ_nil ⟨?_, ?_⟩
      · refine ⟨fun z => ?_, fun z => ?_, rfl⟩
        · go_simp
          go_at_call 29
          exact vals_call (l27Fields_any _ _)
        · go_simp
          go_at_call 30
          exact ints_call (l27List_any _ _ _ _ _ _ _)
      intro v1a g1a hi1a hg1a hl1a n1a v1b g1b hi1b hg1b hl1b n1b w1 hb1 hF1
      clear hbc
      obtain ⟨hc1, hf1⟩ := bcell hb1
      obtain ⟨⟨_, hs1a, ⟨A1a, rfl, hr1a⟩⟩, hs1b, ⟨A1b, rfl, hr1b⟩⟩ := hF1
      have hB1 : Below w.heap.size w w1 := below_then (by first | (go_grown; done) | (repeat (first | (with_reducible assumption) | (with_reducible exact Below.refl _ _) | (with_reducible refine below_drewN' ?_ _) | (with_reducible refine Below.drew ?_) | ((with_reducible refine Below.alloc ?_ ?_ _); rotate_left; focus (first | (simp; done) | (simp; omega) | omega)) | ((with_reducible refine Below.setCell ?_ ?_ _); rotate_left; focus (first | (simp; done) | (simp; omega) | omega))))) (by first | (simp; done) | (simp; omega) | omega) hb1
      have hz1a : w.heap.size < w1.heap.size := (by have := hb1.size; first | omega | (simp at this; omega))
      clear n1a n1b
      try simp only [Act.put, List.setIfInBounds_toArray, List.set_cons_succ, List.set_cons_zero]
      have HV := Lib.hid hr1a
      have HR := Lib.hid hr1b
      have hk3 : ∀ n : Nat, n < 4 → nth xs n = nth [r, c, t, v, g] n := fun n _ => by rw [HX.out]
      clear hr1a hr1b hk3
      go_wp2_with fail
      go_loop [5] (fun i => ∃ n : Nat, n ≤ 4 ∧ i = .int .i64 n ∧ Hid (∀ m, m < n → okAt k [r, c, t, v, g] m = true)) (fun i => 4 - (intOf i).toNat)
      case atStart => exact ⟨0, by omega, rfl, fun m hm => absurd hm (by omega)⟩
      case round =>
        obtain ⟨n, hn, rfl, hall⟩ := hrel
        by_cases hlt : n < 4
        · obtain ⟨b1, o1, rfl, hb1', hcl1⟩ := HV.out.cells (by omega)
          obtain ⟨b2, o2, rfl, hb2', hcl2⟩ := HR.out.cells (by omega)
          have hck1 := (hcl1 n (by omega)).trans (fldB_cell k (by omega))
          have hck2 := hcl2 n (by omega)
          obtain ⟨F, hF⟩ : ∃ F, F = nthB (fldB k) n := ⟨_, rfl⟩
          obtain ⟨X, hX⟩ : ∃ X, X = nth [r, c, t, v, g] n := ⟨_, rfl⟩
          have hok : okAt k [r, c, t, v, g] n = !((!F && X != 0) || !inR X (-400) 400 || (decide (X < 0) && (n != 3 || k != 3))) := by unfold okAt; rw [hF, hX]
          rw [← hF] at hck1
          rw [← hX] at hck2
          have HO := Lib.hid hok
          clear hF hX hcl1 hcl2 hok
          go_wp2_with (go_at_call 27; refine (l01In_any _ _ _ _).mono ?_; rintro e w' ⟨rfl, rfl⟩)
          all_goals
            first
            | (have ho : okAt k [r, c, t, v, g] n = false := by
                 rw [HO.out]
                 clear HO HV HR HX hall hck1 hck2 hc1 hf1 hb1 hB1 hz1a hs1a hs1b hb1' hb2' hg1a hg1b hl1a hl1b hk hg
                 simp_all <;> omega
               go_ret
               exact ⟨ret_bool (isDamage_no3 hk hg hlt ho).symm, by (repeat (first | (with_reducible assumption) | (with_reducible exact Below.refl _ _) | (with_reducible refine below_drewN' ?_ _) | (with_reducible refine Below.drew ?_) | ((with_reducible refine Below.alloc ?_ ?_ _); rotate_left; focus (first | (simp; done) | (simp; omega) | omega)) | ((with_reducible refine Below.setCell ?_ ?_ _); rotate_left; focus (first | (simp; done) | (simp; omega) | omega))))⟩)
            | (have ho : okAt k [r, c, t, v, g] n = true := by
                 rw [HO.out]
                 clear HO HV HR HX hall hck1 hck2 hc1 hf1 hb1 hB1 hz1a hs1a hs1b hb1' hb2' hg1a hg1b hl1a hl1b hk hg
                 simp_all <;> omega
               go_round
               case rel => exact ⟨n + 1, by omega, by first | (go_num; done) | (congr 1; omega), fun m hm => by
                 rcases Nat.lt_or_ge m n with h | h
                 · exact hall.out m h
                 · have : m = n := by omega
                   rw [this]; exact ho⟩
               case measure => simp [intOf]; omega)
        · have hk9 : n = 4 := by omega
          have hfin : isDamageB k r c t v g = lastB k t v := isDamage_yes hk hg (fun m hm => hall.out m (by omega))
          have HF := Lib.hid hfin
          clear hfin hk9
          go_wp2_with fail
          all_goals (go_ret; exact ⟨ret_bool (by rw [HF.out]; unfold lastB; clear HF; simp_all <;> omega), by (repeat (first | (with_reducible assumption) | (with_reducible exact Below.refl _ _) | (with_reducible refine below_drewN' ?_ _) | (with_reducible refine Below.drew ?_) | ((with_reducible refine Below.alloc ?_ ?_ _); rotate_left; focus (first | (simp; done) | (simp; omega) | omega)) | ((with_reducible refine Below.setCell ?_ ?_ _); rotate_left; focus (first | (simp; done) | (simp; omega) | omega))))⟩)
end Go.Proofs.Ytffcjmnldmjocaa
