/-
  Contracts of chapter 2: the arithmetic of a field, which fields are valid.
-/
import Derived.Test.YtbgcbjfimjfbpaaC02G
import Derived.Test.YtbgcbjfimjfbpaaC02I
namespace Go.Proofs.Ytbgcbjfimjfbpaa
set_option linter.unusedSimpArgs false
open Go.RowKit

theorem and_pow {a K : Nat} (h : a < 2 ^ (K + 1)) : a &&& 2 ^ K = if 2 ^ K ≤ a then 2 ^ K else 0 := by
  have hap : a &&& 2 ^ K = (a.testBit K).toNat * 2 ^ K := by
    apply Nat.eq_of_testBit_eq
    intro i
    rw [Nat.testBit_and, Nat.testBit_two_pow]
    cases hb : a.testBit K
    · simp
      intro h1 h2
      rw [h2] at hb; rw [h1] at hb; cases hb
    · simp [Nat.testBit_two_pow]
      intro h2
      rw [← h2]; exact hb
  rw [hap]
  have hk := Nat.two_pow_pos K
  have h2 : 2 ^ (K + 1) = 2 ^ K * 2 := Nat.pow_succ ..
  by_cases hc : 2 ^ K ≤ a
  · have : a.testBit K = true := by
      rw [Nat.testBit_eq_decide_div_mod_eq]
      have : a / 2 ^ K = 1 := by apply Nat.div_eq_of_lt_le <;> omega
      simp [this]
    simp [this, hc]
  · rw [Nat.testBit_lt_two_pow (by omega)]; simp [hc]
set_option maxHeartbeats 1000000 in
theorem twoT_any (X K poly g bC bF : Nat) (w : World) (h1 : w.cell? ⟨bC, 0, none⟩ = some (.pointer (some ⟨g, 0, none⟩))) (hc : w.cell? ⟨g, 1, none⟩ = some (.int .i64 (2 ^ K : Nat))) (h2 : w.cell? ⟨bF, 2, none⟩ = some (.int .i64 poly))
    (hX : X < 2 ^ K) (hK2 : K ≤ 8) (hp : poly < 512) :
    Calls Try.prog 101 #[.int .i64 X, .pointer (some ⟨bC, 0, none⟩), .pointer (some ⟨bF, 0, none⟩)] w fun e w' => e = .returned (.int .i64 (dblT K poly X : Nat)) ∧ Below w.heap.size w w' := by
  have h256 : 2 ^ K ≤ 2 ^ 8 := Nat.pow_le_pow_right (by decide) hK2
  have hpos := Nat.two_pow_pos K
  have hA := and_pow (a := 2 * X) (K := K) (by rw [Nat.pow_succ]; omega)
  have hD : dblT K poly X = if 2 ^ K ≤ 2 * X then (2 * X) ^^^ poly else 2 * X := rfl
  rw [hD]
  clear hD
  generalize 2 ^ K = Q at *
  have hand := i64_and (2 * X) Q (by omega) (by omega)
  rw [hA] at hand
  have e2 : ((2 * X : Nat) : Int) = (X : Int) * 2 := by omega
  have hfa : ∀ w, (Instr.fieldAt 115 (.pointer (some ⟨g, 0, none⟩)) 1).run Try.prog w = .ok (.pointer (some ⟨g, 1, none⟩)) w := fun _ => by kernel_rfl
  by_cases hle : Q ≤ 2 * X
  · rw [if_pos hle] at hand ⊢
    have hx := i64_xor (2 * X) poly (by omega) (by omega)
    rw [e2] at hand hx
    have hQ0 : ((Q : Int) != 0) = true := by simp; omega
    have HX := Lib.hid hx
    clear e2 hA hle hx
    go_enter Try.func101, Try.ntmps101
    go_wp2_with fail
    go_ret
    exact ⟨ret_int (by rw [← HX.out]), by (repeat (first | (with_reducible assumption) | (with_reducible exact Below.refl _ _) | (with_reducible refine below_drewN' ?_ _) | (with_reducible refine Below.drew ?_) | ((with_reducible refine Below.alloc ?_ ?_ _); rotate_left; focus (first | (simp; done) | (simp; omega) | omega)) | ((with_reducible refine Below.setCell ?_ ?_ _); rotate_left; focus (first | (simp; done) | (simp; omega) | omega))))⟩
  · rw [if_neg hle] at hand ⊢
    rw [e2] at hand
    have HE := Lib.hid e2
    clear e2 hA hle
    go_enter Try.func101, Try.ntmps101
    go_wp2_with fail
    go_ret
    exact ⟨ret_int HE.out.symm, by (repeat (first | (with_reducible assumption) | (with_reducible exact Below.refl _ _) | (with_reducible refine below_drewN' ?_ _) | (with_reducible refine Below.drew ?_) | ((with_reducible refine Below.alloc ?_ ?_ _); rotate_left; focus (first | (simp; done) | (simp; omega) | omega)) | ((with_reducible refine Below.setCell ?_ ?_ _); rotate_left; focus (first | (simp; done) | (simp; omega) | omega))))⟩
/-- What calc returns: the arithmetic, if the field is valid. -/
def CalcRes (w w' : World) (p k g : Int) (e : Ending) : Prop := ∃ v, e = .returned (.tuple #[v, .bool (fieldB p k g)]) ∧
  (fieldB p k g = true → ∃ b S : Nat, v = .pointer (some ⟨b, 0, none⟩) ∧ fsize p k = S ∧ CalcAt w' b S (k != 1) ∧ w.heap.size ≤ b) ∧ Below w.heap.size w w'
theorem CalcAt.drewN {w : World} {g S : Nat} {b : Bool} (h : CalcAt w g S b) (m : Nat) : CalcAt (w.drewN m) g S b := h
theorem CalcRes.no {w w' : World} {p k g : Int} {v : Value} (h : fieldB p k g = false) (hb : Below w.heap.size w w') : CalcRes w w' p k g (.returned (.tuple #[v, .bool false])) :=
  ⟨v, by rw [h], (fun h2 => absurd h2 (by rw [h]; decide)), hb⟩
set_option maxHeartbeats 4000000 in
theorem calc_one (p g : Int) (w : World) : Calls Try.prog 70 #[.agg #[.int .i64 p, .int .i64 1, .int .i64 g]] w fun e w' => CalcRes w w' p 1 g e := by
  cases h1 : inR p 3 1021
  · have HF := Lib.hid (show fieldB p 1 g = false from fieldP_no (g := g) (.inl h1))
    go_enter Try.func70, Try.ntmps70
    go_wp2_with (go_at_call 60; refine (inRange_any _ _ _ _).mono ?_; rintro e w' ⟨rfl, rfl⟩)
    all_goals
      go_returns
      exact CalcRes.no HF.out (by (repeat (first | (with_reducible assumption) | (with_reducible exact Below.refl _ _) | (with_reducible refine below_drewN' ?_ _) | (with_reducible refine Below.drew ?_) | ((with_reducible refine Below.alloc ?_ ?_ _); rotate_left; focus (first | (simp; done) | (simp; omega) | omega)) | ((with_reducible refine Below.setCell ?_ ?_ _); rotate_left; focus (first | (simp; done) | (simp; omega) | omega)))))
  have b1 := inR_true h1
  obtain ⟨P, rfl⟩ := Int.eq_ofNat_of_zero_le (show 0 ≤ p by omega)
  have HQ := Lib.hid (fun w => isPrime_any P w (by omega) (by omega))
  have hne2 : ((P : Int) == 2) = false := by simp; omega
  cases h2 : primeB P
  · rw [h2] at HQ
    have HF := Lib.hid (show fieldB P 1 g = false from fieldP_no (p := P) (g := g) (.inr (.inl h2)))
    clear h2
    go_enter Try.func70, Try.ntmps70
    go_wp2_with first | (go_at_call 60; refine (inRange_any _ _ _ _).mono ?_; rintro e w' ⟨rfl, rfl⟩) | (go_at_call 95; refine (HQ.out _).mono ?_; rintro e w' ⟨rfl, rfl⟩)
    go_returns
    exact CalcRes.no HF.out (by (repeat (first | (with_reducible assumption) | (with_reducible exact Below.refl _ _) | (with_reducible refine below_drewN' ?_ _) | (with_reducible refine Below.drew ?_) | ((with_reducible refine Below.alloc ?_ ?_ _); rotate_left; focus (first | (simp; done) | (simp; omega) | omega)) | ((with_reducible refine Below.setCell ?_ ?_ _); rotate_left; focus (first | (simp; done) | (simp; omega) | omega)))))
  rw [h2] at HQ
  have HR := Lib.hid (fun (h : Nat) (hh : h < P) (w : World) => primePowers_any P h w (by omega) (by omega) (by omega))
  have H1 := Lib.hid h1
  have H2 := Lib.hid h2
  clear h2
  go_enter Try.func70, Try.ntmps70
  go_wp2_with first | (go_at_call 60; refine (inRange_any _ _ _ _).mono ?_; rintro e w' ⟨rfl, rfl⟩) | (go_at_call 95; refine (HQ.out _).mono ?_; rintro e w' ⟨rfl, rfl⟩)
  have hP3 : 3 ≤ P := by omega
  have hP4 : P ≤ 1021 := by omega
  clear h1 b1 HQ
  go_loopw [4] (fun i wr => ∃ n : Nat, 2 ≤ n ∧ n ≤ P ∧ i = .int .i64 n ∧ Hid (∀ j, 2 ≤ j → j < n → fullB (mulT P j) P = false) ∧ Hid (wr.heap[w.heap.size]? = some (.cells #[.int .i64 P, .int .i64 1, .int .i64 g] 28 (0, 0))) ∧ Hid (Below w.heap.size w wr))
    (fun i _ => P - (intOf i).toNat)
  case atStart => exact ⟨2, Nat.le_refl _, by omega, rfl, Lib.hid (fun j a b => by omega), Lib.hid (heap_alloc_new _ _), Lib.hid (by go_grown)⟩
  case round =>
    rename World => wo
    obtain ⟨n, hn1, hn, rfl, hno, hh, hbl⟩ := hrel
    obtain ⟨c0, c1, c2, -⟩ := blk3 hh.out
    have hz := lt_of_block hh.out
    have hbw := hbl.out
    by_cases hlt : n < P
    · have HRn := Lib.hid (HR.out n hlt)
      cases hf : fullB (mulT P n) P
      · rw [hf] at HRn
        have HNO := Lib.hid (show ∀ j, 2 ≤ j → j < n + 1 → fullB (mulT P j) P = false from fun j a b => by
          rcases Nat.lt_or_ge j n with h | h
          · exact hno.out j a h
          · obtain rfl : j = n := by omega
            exact hf)
        clear hf
        go_wp2_with (go_at_call 96; with_reducible refine (HRn.out _).mono ?_; rintro e1 w1 ⟨g1, rfl, hg1, hC1, hb1⟩; obtain ⟨hc1, hf1⟩ := bcell hb1; have hB1 : Below w.heap.size w w1 := (below_then (by first | (go_grown; done) | (repeat (first | (with_reducible assumption) | (with_reducible exact Below.refl _ _) | (with_reducible refine below_drewN' ?_ _) | (with_reducible refine Below.drew ?_) | ((with_reducible refine Below.alloc ?_ ?_ _); rotate_left; focus (first | (simp; done) | (simp; omega) | omega)) | ((with_reducible refine Below.setCell ?_ ?_ _); rotate_left; focus (first | (simp; done) | (simp; omega) | omega))))) (by first | omega | (simp; done) | (simp; omega)) hb1); have hz1a : w.heap.size < w1.heap.size := (by have := hb1.size; first | omega | (simp at this; omega)))
        have hh1 := Lib.hid (blk_below hh.out hb1 hz)
        go_roundw
        case rel => exact ⟨n + 1, by omega, by omega, by go_num, HNO, hh1, Lib.hid hB1⟩
        case measure => simp [intOf]; omega
      · rw [hf] at HRn
        have HF := Lib.hid (fieldP_min (g := g) H1.out H2.out hn1 hlt hno.out hf)
        clear hf
        go_wp2_with (go_at_call 96; with_reducible refine (HRn.out _).mono ?_; rintro e1 w1 ⟨g1, rfl, hg1, hC1, hb1⟩; obtain ⟨hc1, hf1⟩ := bcell hb1; have hB1 : Below w.heap.size w w1 := (below_then (by first | (go_grown; done) | (repeat (first | (with_reducible assumption) | (with_reducible exact Below.refl _ _) | (with_reducible refine below_drewN' ?_ _) | (with_reducible refine Below.drew ?_) | ((with_reducible refine Below.alloc ?_ ?_ _); rotate_left; focus (first | (simp; done) | (simp; omega) | omega)) | ((with_reducible refine Below.setCell ?_ ?_ _); rotate_left; focus (first | (simp; done) | (simp; omega) | omega))))) (by first | omega | (simp; done) | (simp; omega)) hb1); have hz1a : w.heap.size < w1.heap.size := (by have := hb1.size; first | omega | (simp at this; omega)))
        have hh1 := Lib.hid (blk_below hh.out hb1 hz)
        obtain ⟨d0, d1, d2, -⟩ := blk3 hh1.out
        have HC1 := Lib.hid hC1
        clear hc1 hf1 c0 c1 c2 hC1
        go_quiet (fail)
        go_wp2_with fail
        go_returns
        exact ⟨.pointer (some ⟨g1, 0, none⟩), by rw [fieldB_one, HF.out]; rfl, fun _ => ⟨g1, P, rfl, rfl, HC1.out.drewN _, by have := hbl.out.size; omega⟩, below_drewN' hB1 _⟩
    · obtain rfl : n = P := by omega
      have HF := Lib.hid (show fieldB n 1 g = false from fieldP_none H1.out H2.out hno.out)
      go_wp2_with (go_at_call 60; refine (inRange_any _ _ _ _).mono ?_; rintro e w' ⟨rfl, rfl⟩)
      go_returns
      exact CalcRes.no HF.out (by (repeat (first | (with_reducible assumption) | (with_reducible exact Below.refl _ _) | (with_reducible refine below_drewN' ?_ _) | (with_reducible refine Below.drew ?_) | ((with_reducible refine Below.alloc ?_ ?_ _); rotate_left; focus (first | (simp; done) | (simp; omega) | omega)) | ((with_reducible refine Below.setCell ?_ ?_ _); rotate_left; focus (first | (simp; done) | (simp; omega) | omega)))))
set_option maxRecDepth 50000 in
set_option maxHeartbeats 4000000 in
theorem calc_two (K G : Nat) (w : World) (hK : 3 ≤ K) (hK2 : K ≤ 8) (hp1 : 2 ^ K ≤ G) (hp2 : G < 2 ^ (K + 1)) :
    Calls Try.prog 70 #[.agg #[.int .i64 2, .int .i64 K, .int .i64 G]] w fun e w' => ∃ g, e = .returned (.tuple #[.pointer (some ⟨g, 0, none⟩), .bool (fullB (dblT K G) (2 ^ K))]) ∧ w.heap.size ≤ g ∧ CalcAt w' g (2 ^ K) true ∧ Below w.heap.size w w' := by
  have hEN : Hid (∀ (args : Array Value) (w : World), (callFunc 101 args).run Try.prog w = .ok (.enter 101 args) w) := Lib.hid (fun _ _ => by kernel_rfl)
  have hmf : ∀ (fn : Fn) (first cap : Array Value) (w : World), (Instr.makeFunc fn first cap).run Try.prog w = .ok (.func fn first cap) w := fun _ _ _ _ => rfl
  have hs := pow2_size hK hK2
  have HL := Lib.hid (dblT_lt (poly := G) (by omega) hp1 hp2)
  have hTA := Lib.hid (fun (X g bC bF : Nat) (w : World) (h1 : w.cell? ⟨bC, 0, none⟩ = some (.pointer (some ⟨g, 0, none⟩))) (hc : w.cell? ⟨g, 1, none⟩ = some (.int .i64 (2 ^ K : Nat))) (h2 : w.cell? ⟨bF, 2, none⟩ = some (.int .i64 G)) (hX : X < 2 ^ K) =>
    twoT_any X K G g bC bF w h1 hc h2 hX hK2 (by rw [Nat.pow_succ] at hp2; omega))
  have hq : (G : Int) / ((2 ^ K : Nat) : Int) = 1 := by
    have : G / 2 ^ K = 1 := by
      rw [Nat.pow_succ] at hp2
      apply Nat.div_eq_of_lt_le <;> omega
    rw [← Int.natCast_ediv, this]; rfl
  have hGl : G < 512 := by rw [Nat.pow_succ] at hp2; omega
  have hin : inR (K : Int) 3 8 = true := inR_mk (by omega) (by omega)
  have e1 : (2 : Int) ^ K = ((2 ^ K : Nat) : Int) := by simp
  clear hp1 hp2
  generalize dblT K G = T at *
  generalize 2 ^ K = S at *
  have hk1 : ((K : Int) == 1) = false := by simp; omega
  have hca := calc_at2 (w.alloc (.cells #[.int .i64 2, .int .i64 K, .int .i64 G] 28)) S
  generalize hZ : (Try.zeroCells115.setIfInBounds 0 (.bool true)).setIfInBounds 1 (.int .i64 S) = CS at hca
  simp only [World.size_alloc] at hca
  have HZ := Lib.hid hZ
  have hcF : (((w.alloc (.cells #[.int .i64 2, .int .i64 K, .int .i64 G] 28)).alloc (.cells CS 115)).alloc (.cells #[.pointer (some ⟨w.heap.size + 1, 0, none⟩)] 89)).cell? ⟨w.heap.size, 2, none⟩ = some (.int .i64 G) := by go_simp
  have hcC : (((w.alloc (.cells #[.int .i64 2, .int .i64 K, .int .i64 G] 28)).alloc (.cells CS 115)).alloc (.cells #[.pointer (some ⟨w.heap.size + 1, 0, none⟩)] 89)).cell? ⟨w.heap.size + 1 + 1, 0, none⟩ = some (.pointer (some ⟨w.heap.size + 1, 0, none⟩)) := by go_simp
  have hCA := hca.below ((Below.refl _ _).alloc (Nat.le_refl _) (.cells #[.pointer (some ⟨w.heap.size + 1, 0, none⟩)] 89)) (by simp)
  obtain ⟨W, hW⟩ : ∃ W, ((w.alloc (.cells #[.int .i64 2, .int .i64 K, .int .i64 G] 28)).alloc (.cells CS 115)).alloc (.cells #[.pointer (some ⟨w.heap.size + 1, 0, none⟩)] 89) = W := ⟨_, rfl⟩
  rw [hW] at hcF hcC hCA
  have hsW : W.heap.size = w.heap.size + 1 + 1 + 1 := by rw [← hW]; simp
  have HBW : Hid (Below w.heap.size w W) := Lib.hid (by rw [← hW]; go_grown)
  have HCA := Lib.hid hCA
  have HCF := Lib.hid hcF
  have HCC := Lib.hid hcC
  have HW := Lib.hid hW
  clear hca hcF hcC hW hCA
  go_enter Try.func70, Try.ntmps70
  go_wp2_with (go_at_call 60; refine (inRange_any _ _ _ _).mono ?_; rintro e w' ⟨rfl, rfl⟩)
  rw [HW.out]
  go_at_call 100
  refine (fill_any T S (w.heap.size + 1) true 101 _ _ W hEN.out HCA.out (by omega) (by omega) HL.out ?_).mono ?_
  · intro x w' hx hc hg
    exact hTA.out x _ _ _ w' ((grown_cell hg (by omega) (by omega)).trans HCC.out) hc.c1 ((grown_cell hg (by omega) (by omega)).trans HCF.out) hx
  rintro e1 w1 ⟨rfl, hc1, hg1⟩
  have HC1 := Lib.hid hc1
  have HB1 := Lib.hid (HBW.out.grown hg1 (by omega) (fun k hk => by simp at hk; omega))
  have hk2 := (grown_cell (k := 0) hg1 (by omega) (by omega)).trans HCC.out
  clear hc1 hg1 hZ
  go_wp2_with fail
  first | go_returns | go_ret | (go_quiet (fail); go_wp2_with fail; go_returns)
  exact ⟨_, rfl, by omega, HC1.out, HB1.out⟩
set_option maxHeartbeats 4000000 in
theorem calc_none (p k g : Int) (w : World) (hk : k ≠ 1) (h : p ≠ 2 ∨ inR k 3 8 = false ∨ (inR k 3 8 = true ∧ inR g ((2 : Int) ^ k.toNat) ((2 : Int) ^ (k.toNat + 1) - 1) = false)) :
    Calls Try.prog 70 #[.agg #[.int .i64 p, .int .i64 k, .int .i64 g]] w fun e w' => ∃ v, e = .returned (.tuple #[v, .bool false]) ∧ Below w.heap.size w w' := by
  have hk1 : (k == 1) = false := by simpa using hk
  clear hk
  by_cases hp : p = 2
  · subst hp
    cases h1 : inR k 3 8
    · clear h
      go_enter Try.func70, Try.ntmps70
      go_wp2_with (go_at_call 60; refine (inRange_any _ _ _ _).mono ?_; rintro e w' ⟨rfl, rfl⟩)
      go_returns
      exact ⟨_, rfl, by (repeat (first | (with_reducible assumption) | (with_reducible exact Below.refl _ _) | (with_reducible refine below_drewN' ?_ _) | (with_reducible refine Below.drew ?_) | ((with_reducible refine Below.alloc ?_ ?_ _); rotate_left; focus (first | (simp; done) | (simp; omega) | omega)) | ((with_reducible refine Below.setCell ?_ ?_ _); rotate_left; focus (first | (simp; done) | (simp; omega) | omega))))⟩
    have b1 := inR_true h1
    rw [h1] at h
    simp only [Bool.true_eq_false, false_or, true_and, ne_eq, not_true_eq_false] at h
    obtain ⟨K, rfl⟩ := Int.eq_ofNat_of_zero_le (show 0 ≤ k by omega)
    rw [Int.toNat_natCast] at h
    have hpw := pow2_bd (k := K) (by omega)
    have ht : (g / (2 : Int) ^ K == 1) = false := by
      have hpe : (2 : Int) ^ (K + 1) = 2 * 2 ^ K := by rw [Int.pow_succ]; omega
      rw [hpe] at h
      generalize (2 : Int) ^ K = Q at *
      rw [beq_eq_false_iff_ne]
      intro he
      have h3 := Int.emod_nonneg g (b := Q) (by omega)
      have h4 := Int.emod_lt_of_pos g (b := Q) (by omega)
      have h5 := Int.mul_ediv_add_emod g Q
      rw [he, Int.mul_one] at h5
      rw [inR_mk (by omega) (by omega)] at h
      cases h
    clear h
    go_enter Try.func70, Try.ntmps70
    go_wp2_with (go_at_call 60; refine (inRange_any _ _ _ _).mono ?_; rintro e w' ⟨rfl, rfl⟩)
    go_returns
    exact ⟨_, rfl, by (repeat (first | (with_reducible assumption) | (with_reducible exact Below.refl _ _) | (with_reducible refine below_drewN' ?_ _) | (with_reducible refine Below.drew ?_) | ((with_reducible refine Below.alloc ?_ ?_ _); rotate_left; focus (first | (simp; done) | (simp; omega) | omega)) | ((with_reducible refine Below.setCell ?_ ?_ _); rotate_left; focus (first | (simp; done) | (simp; omega) | omega))))⟩
  · have hp2 : (p == 2) = false := by simpa using hp
    clear h
    go_enter Try.func70, Try.ntmps70
    go_wp2_with (go_at_call 60; refine (inRange_any _ _ _ _).mono ?_; rintro e w' ⟨rfl, rfl⟩)
    go_returns
    exact ⟨_, rfl, by (repeat (first | (with_reducible assumption) | (with_reducible exact Below.refl _ _) | (with_reducible refine below_drewN' ?_ _) | (with_reducible refine Below.drew ?_) | ((with_reducible refine Below.alloc ?_ ?_ _); rotate_left; focus (first | (simp; done) | (simp; omega) | omega)) | ((with_reducible refine Below.setCell ?_ ?_ _); rotate_left; focus (first | (simp; done) | (simp; omega) | omega))))⟩
theorem calc_any (p k g : Int) (w : World) : Calls Try.prog 70 #[.agg #[.int .i64 p, .int .i64 k, .int .i64 g]] w fun e w' => CalcRes w w' p k g e := by
  by_cases hk : k = 1
  · subst hk; exact calc_one p g w
  by_cases h : p ≠ 2 ∨ inR k 3 8 = false ∨ (inR k 3 8 = true ∧ inR g ((2 : Int) ^ k.toNat) ((2 : Int) ^ (k.toNat + 1) - 1) = false)
  · refine (calc_none p k g w hk h).mono ?_
    rintro e w' ⟨v, rfl, hb⟩
    refine CalcRes.no ?_ hb
    rw [fieldB_two hk]
    rcases h with h | h | ⟨h, h2⟩
    · simp [h]
    · simp [fieldT, h]
    · simp [fieldT, h2]
  · simp only [not_or, ne_eq, Decidable.not_not, not_and, Bool.not_eq_false] at h
    obtain ⟨rfl, h2, h3⟩ := h
    have h4 := h3 h2
    have b2 := inR_true h2
    obtain ⟨K, rfl⟩ := Int.eq_ofNat_of_zero_le (show 0 ≤ k by omega)
    rw [Int.toNat_natCast] at h4
    have b4 := inR_true h4
    have hpw := pow2_bd (k := K) (by omega)
    obtain ⟨G, rfl⟩ := Int.eq_ofNat_of_zero_le (show 0 ≤ g by omega)
    have e1 : ((2 ^ K : Nat) : Int) = (2 : Int) ^ K := by simp
    have e2 : ((2 ^ (K + 1) : Nat) : Int) = (2 : Int) ^ (K + 1) := by simp
    refine (calc_two K G w (by omega) (by omega) (by omega) (by omega)).mono ?_
    rintro e w' ⟨b, rfl, hb, hc, hbl⟩
    have hf : fieldB 2 K G = fullB (dblT K G) (2 ^ K) := by rw [fieldB_two hk, fieldT_end h2 h4]; rfl
    refine ⟨_, by rw [hf], fun _ => ⟨b, 2 ^ K, rfl, ?_, ?_, hb⟩, hbl⟩
    · unfold fsize; rw [if_neg hk, Int.toNat_natCast]; simp
    · rw [show ((K : Int) != 1) = true by simp; omega]; exact hc
theorem calc_no (p k g : Int) (w : World) (h : fieldB p k g = false) : Calls Try.prog 70 #[.agg #[.int .i64 p, .int .i64 k, .int .i64 g]] w fun e w' => ∃ v, e = .returned (.tuple #[v, .bool false]) ∧ Below w.heap.size w w' :=
  (calc_any p k g w).mono fun e w' ⟨v, he, _, hb⟩ => ⟨v, by rw [he, h], hb⟩
theorem calc_yes (p k g : Int) (w : World) (h : fieldB p k g = true) : Calls Try.prog 70 #[.agg #[.int .i64 p, .int .i64 k, .int .i64 g]] w fun e w' =>
    ∃ b S : Nat, e = .returned (.tuple #[.pointer (some ⟨b, 0, none⟩), .bool true]) ∧ fsize p k = S ∧ CalcAt w' b S (k != 1) ∧ w.heap.size ≤ b ∧ Below w.heap.size w w' :=
  (calc_any p k g w).mono fun e w' ⟨v, he, hc, hb⟩ => by
    obtain ⟨b, S, hv, h1, h2, h3⟩ := hc h
    exact ⟨b, S, by rw [he, h, hv], h1, h2, h3, hb⟩
theorem IsField_any (p k g : Int) (w : World) :
    Calls Try.prog 63 #[.agg #[.int .i64 p, .int .i64 k, .int .i64 g]] w fun e w' => e = .returned (.bool (fieldB p k g)) ∧ Below w.heap.size w w' := by
  have HC : Hid (∀ w, Calls Try.prog 70 #[.agg #[.int .i64 p, .int .i64 k, .int .i64 g]] w fun e w' => ∃ v, e = .returned (.tuple #[v, .bool (fieldB p k g)]) ∧ Below w.heap.size w w') :=
    Lib.hid (fun w => (calc_any p k g w).mono fun e w' ⟨v, he, _, hb⟩ => ⟨v, he, hb⟩)
  generalize fieldB p k g = F at HC ⊢
  go_enter Try.func63, Try.ntmps63
  go_wp2_with (go_at_call 70; with_reducible refine (HC.out _).mono ?_; rintro e1 w1 ⟨v1, rfl, hb1⟩; obtain ⟨hc1, hf1⟩ := bcell hb1; have hB1 : Below w.heap.size w w1 := (below_then (by first | (go_grown; done) | (repeat (first | (with_reducible assumption) | (with_reducible exact Below.refl _ _) | (with_reducible refine below_drewN' ?_ _) | (with_reducible refine Below.drew ?_) | ((with_reducible refine Below.alloc ?_ ?_ _); rotate_left; focus (first | (simp; done) | (simp; omega) | omega)) | ((with_reducible refine Below.setCell ?_ ?_ _); rotate_left; focus (first | (simp; done) | (simp; omega) | omega))))) (by first | omega | (simp; done) | (simp; omega)) hb1); have hz1a : w.heap.size < w1.heap.size := (by have := hb1.size; first | omega | (simp at this; omega)))
  go_ret
  exact ⟨rfl, by (repeat (first | (with_reducible assumption) | (with_reducible exact Below.refl _ _) | (with_reducible refine below_drewN' ?_ _) | (with_reducible refine Below.drew ?_) | ((with_reducible refine Below.alloc ?_ ?_ _); rotate_left; focus (first | (simp; done) | (simp; omega) | omega)) | ((with_reducible refine Below.setCell ?_ ?_ _); rotate_left; focus (first | (simp; done) | (simp; omega) | omega))))⟩
end Go.Proofs.Ytbgcbjfimjfbpaa
