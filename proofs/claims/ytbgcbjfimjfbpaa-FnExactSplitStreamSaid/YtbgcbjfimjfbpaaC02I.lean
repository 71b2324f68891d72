/-
  Contracts of chapter 2, the reference: which fields are valid.
-/
import Derived.Test.YtbgcbjfimjfbpaaC02S
namespace Go.Proofs.Ytbgcbjfimjfbpaa
set_option linter.unusedSimpArgs false
open Go.RowKit

theorem fieldP_no {p g : Int} (h : inR p 3 1021 = false ∨ primeB p.toNat = false ∨ inR g 2 (p - 1) = false) : fieldP p g = false := by
  rcases h with h | h | h <;> simp [fieldP, h]
theorem fieldP_hit {P G h : Nat} (h2 : 2 ≤ h) (hG : h < G) (hf : fullB (mulT P h) P = true) : fieldP P G = false := by
  cases e : fieldP P G with
  | false => rfl
  | true =>
    simp only [fieldP, Bool.and_eq_true, List.all_eq_true, List.mem_range, Int.toNat_natCast, Bool.or_eq_true, decide_eq_true_eq, Bool.not_eq_true'] at e
    rcases e.1.2 h hG with h3 | h3
    · omega
    · rw [h3] at hf; cases hf
theorem fieldP_end {P G : Nat} (hp : inR (P : Int) 3 1021 = true) (hq : primeB P = true) (hg : 2 ≤ G) (hg2 : G < P) (hno : ∀ j, 2 ≤ j → j < G → fullB (mulT P j) P = false) : fieldP P G = fullB (mulT P G) P := by
  have h1 : inR (G : Int) 2 ((P : Int) - 1) = true := inR_mk (by omega) (by omega)
  have h2 : (List.range G).all (fun h => decide (h < 2) || !fullB (mulT P h) P) = true := by
    rw [List.all_eq_true]
    intro j hj
    rw [List.mem_range] at hj
    by_cases hj2 : j < 2
    · simp [hj2]
    · simp [hno j (by omega) hj]
  simp only [fieldP, hp, Int.toNat_natCast, hq, h1, h2, Bool.true_and]
theorem fieldP_min {P h : Nat} {g : Int} (hp : inR (P : Int) 3 1021 = true) (hq : primeB P = true) (h2 : 2 ≤ h) (hP : h < P) (hno : ∀ j, 2 ≤ j → j < h → fullB (mulT P j) P = false) (hf : fullB (mulT P h) P = true) :
    fieldP P g = ((h : Int) == g) := by
  by_cases he : (h : Int) = g
  · subst he
    rw [fieldP_end hp hq h2 hP hno, hf]; simp
  · rw [show ((h : Int) == g) = false from beq_eq_false_iff_ne.2 he]
    cases e : fieldP P g with
    | false => rfl
    | true =>
      obtain ⟨P', G, hPP, rfl, h3, h4, h5, h6⟩ := fieldP_size e
      obtain rfl : P = P' := by omega
      rcases Nat.lt_or_ge h G with hl | hl
      · rw [fieldP_hit h2 hl hf] at e; cases e
      · have hl2 : G < h := by omega
        rw [fieldP_end hp hq h5 h6 (fun j a b => hno j a (by omega)), hno G h5 hl2] at e; cases e
theorem fieldP_none {P : Nat} {g : Int} (hp : inR (P : Int) 3 1021 = true) (hq : primeB P = true) (hno : ∀ j, 2 ≤ j → j < P → fullB (mulT P j) P = false) : fieldP P g = false := by
  cases e : fieldP P g with
  | false => rfl
  | true =>
    obtain ⟨P', G, hPP, rfl, h3, h4, h5, h6⟩ := fieldP_size e
    obtain rfl : P = P' := by omega
    rw [fieldP_end hp hq h5 h6 (fun j a b => hno j a (by omega)), hno G h5 h6] at e; cases e
theorem fieldB_one (p g : Int) : fieldB p 1 g = fieldP p g := rfl
theorem fieldB_two {p k g : Int} (hk : k ≠ 1) : fieldB p k g = (p == 2 && fieldT k g) := by unfold fieldB; rw [if_neg hk]
theorem mulT_one {P G : Nat} (h : G < P) : mulT P G 1 = G := by unfold mulT; rw [Nat.one_mul]; exact Nat.mod_eq_of_lt h
theorem dblT_one {K poly : Nat} (h : 3 ≤ K) : dblT K poly 1 = 2 := by
  have : 2 ^ 3 ≤ 2 ^ K := Nat.pow_le_pow_right (by decide) h
  unfold dblT; rw [if_neg (by omega)]
theorem pow2_size {K : Nat} (h1 : 3 ≤ K) (h2 : K ≤ 8) : 8 ≤ 2 ^ K ∧ 2 ^ K ≤ 256 := by
  have a : 2 ^ 3 ≤ 2 ^ K := Nat.pow_le_pow_right (by decide) h1
  have b : 2 ^ K ≤ 2 ^ 8 := Nat.pow_le_pow_right (by decide) h2
  omega
theorem fieldT_end {K G : Nat} (hk : inR (K : Int) 3 8 = true) (hg : inR (G : Int) ((2 : Int) ^ K) ((2 : Int) ^ (K + 1) - 1) = true) : fieldT K G = fullB (dblT K G) (2 ^ K) := by
  unfold fieldT
  rw [hk, Int.toNat_natCast, Int.toNat_natCast, hg]; rfl
theorem l02Runs_one (P G : Nat) (g : Int) (w : World) (hP : 3 ≤ P) (hP2 : P ≤ 1021) (hG : G < P) :
    Calls Try.prog 98 #[.agg #[.int .i64 P, .int .i64 1, .int .i64 g], .int .i64 G] w fun e w' => e = .returned (.bool (fullB (mulT P G) P)) ∧ Below w.heap.size w w' :=
  l02Runs_gen P 1 g (mulT P G) P G w hP hP2 (mulT_lt (by omega)) (mulT_one hG) (fun w => l02Size_one P g w) (fun x w hx => l02Mul_one P x G g w (by omega) hP2 (by omega) (by omega))
theorem l02Runs_two (p : Int) (K poly : Nat) (w : World) (hK : 3 ≤ K) (hK2 : K ≤ 8) (hp1 : 2 ^ K ≤ poly) (hp2 : poly < 2 ^ (K + 1)) :
    Calls Try.prog 98 #[.agg #[.int .i64 p, .int .i64 K, .int .i64 poly], .int .i64 2] w fun e w' => e = .returned (.bool (fullB (dblT K poly) (2 ^ K))) ∧ Below w.heap.size w w' :=
  have hs := pow2_size hK hK2
  l02Runs_gen p K poly (dblT K poly) (2 ^ K) 2 w (by omega) (by omega) (dblT_lt (by omega) hp1 hp2) (dblT_one hK) (fun w => l02Size_two p poly K w hK hK2) (fun x w hx => l02Mul_two p K poly x w hK hK2 hp1 hp2 hx)
set_option maxHeartbeats 4000000 in
theorem sIsField_one (p g : Int) (w : World) :
    Calls Try.prog 66 #[.agg #[.int .i64 p, .int .i64 1, .int .i64 g]] w fun e w' => e = .returned (.bool (fieldP p g)) ∧ Below w.heap.size w w' := by
  cases h1 : inR p 3 1021
  · have HF := Lib.hid (fieldP_no (g := g) (.inl h1))
    go_enter Try.func66, Try.ntmps66
    go_wp2_with (go_at_call 47; refine (l01In_any _ _ _ _).mono ?_; rintro e w' ⟨rfl, rfl⟩)
    go_ret
    exact ⟨ret_bool HF.out.symm, by (repeat (first | (with_reducible assumption) | (with_reducible exact Below.refl _ _) | (with_reducible refine below_drewN' ?_ _) | (with_reducible refine Below.drew ?_) | ((with_reducible refine Below.alloc ?_ ?_ _); rotate_left; focus (first | (simp; done) | (simp; omega) | omega)) | ((with_reducible refine Below.setCell ?_ ?_ _); rotate_left; focus (first | (simp; done) | (simp; omega) | omega))))⟩
  have b1 := inR_true h1
  obtain ⟨P, rfl⟩ := Int.eq_ofNat_of_zero_le (show 0 ≤ p by omega)
  have HQ := Lib.hid (fun w => l02Prime_any P w (by omega) (by omega))
  cases h2 : primeB P
  · rw [h2] at HQ
    have HF := Lib.hid (fieldP_no (p := P) (g := g) (.inr (.inl h2)))
    clear h2
    go_enter Try.func66, Try.ntmps66
    go_wp2_with first | (go_at_call 47; refine (l01In_any _ _ _ _).mono ?_; rintro e w' ⟨rfl, rfl⟩) | (go_at_call 97; refine (HQ.out _).mono ?_; rintro e w' ⟨rfl, rfl⟩)
    go_ret
    exact ⟨ret_bool HF.out.symm, by (repeat (first | (with_reducible assumption) | (with_reducible exact Below.refl _ _) | (with_reducible refine below_drewN' ?_ _) | (with_reducible refine Below.drew ?_) | ((with_reducible refine Below.alloc ?_ ?_ _); rotate_left; focus (first | (simp; done) | (simp; omega) | omega)) | ((with_reducible refine Below.setCell ?_ ?_ _); rotate_left; focus (first | (simp; done) | (simp; omega) | omega))))⟩
  rw [h2] at HQ
  have hp1 : IntKind.i64.wrap ((P : Int) - 1) = (P : Int) - 1 := wr64 (by omega)
  cases h3 : inR g 1 ((P : Int) - 1)
  · have HF := Lib.hid (fieldP_no (p := P) (g := g) (.inr (.inr (by
      rcases inR_cases g 1 ((P : Int) - 1) with ⟨e, _⟩ | ⟨e, h⟩
      · rw [e] at h3; cases h3
      · rcases inR_cases g 2 ((P : Int) - 1) with ⟨e2, h4⟩ | ⟨e2, _⟩
        · omega
        · exact e2))))
    clear h2
    go_enter Try.func66, Try.ntmps66
    go_wp2_with first | (go_at_call 47; refine (l01In_any _ _ _ _).mono ?_; rintro e w' ⟨rfl, rfl⟩) | (go_at_call 97; refine (HQ.out _).mono ?_; rintro e w' ⟨rfl, rfl⟩)
    go_ret
    exact ⟨ret_bool HF.out.symm, by (repeat (first | (with_reducible assumption) | (with_reducible exact Below.refl _ _) | (with_reducible refine below_drewN' ?_ _) | (with_reducible refine Below.drew ?_) | ((with_reducible refine Below.alloc ?_ ?_ _); rotate_left; focus (first | (simp; done) | (simp; omega) | omega)) | ((with_reducible refine Below.setCell ?_ ?_ _); rotate_left; focus (first | (simp; done) | (simp; omega) | omega))))⟩
  have b3 := inR_true h3
  obtain ⟨G, rfl⟩ := Int.eq_ofNat_of_zero_le (show 0 ≤ g by omega)
  have HR := Lib.hid (fun (h : Nat) (hh : h < P) (w : World) => l02Runs_one P h G w (by omega) (by omega) hh)
  have H1 := Lib.hid h1
  have H2 := Lib.hid h2
  have hG1 : 1 ≤ G := by omega
  have hGP : G < P := by omega
  have hP3 : 3 ≤ P := by omega
  have hP4 : P ≤ 1021 := by omega
  clear h2
  go_enter Try.func66, Try.ntmps66
  go_wp2_with first | (go_at_call 47; refine (l01In_any _ _ _ _).mono ?_; rintro e w' ⟨rfl, rfl⟩) | (go_at_call 97; refine (HQ.out _).mono ?_; rintro e w' ⟨rfl, rfl⟩)
  clear h1 h3 hp1 b1 b3 HQ
  go_loopw [3] (fun i wr => ∃ n : Nat, 1 ≤ n ∧ n ≤ G ∧ i = .int .i64 n ∧ Hid (∀ j, 2 ≤ j → j < n → fullB (mulT P j) P = false) ∧ Hid (wr.heap[w.heap.size]? = some (.cells #[.int .i64 P, .int .i64 1, .int .i64 G] 28 (0, 0))) ∧ Hid (Below w.heap.size w wr))
    (fun i _ => G - (intOf i).toNat)
  case atStart => exact ⟨1, Nat.le_refl _, hG1, rfl, Lib.hid (fun j a b => by omega), Lib.hid (heap_alloc_new _ _), Lib.hid (by go_grown)⟩
  case round =>
    rename World => wo
    obtain ⟨n, hn1, hn, rfl, hno, hh, hbl⟩ := hrel
    obtain ⟨c0, c1, c2, -⟩ := blk3 hh.out
    have hz := lt_of_block hh.out
    have hbw := hbl.out
    by_cases hlt : n < G
    · have HRn := Lib.hid (HR.out n (by omega))
      cases hf : fullB (mulT P n) P
      · rw [hf] at HRn
        have HNO := Lib.hid (show ∀ j, 2 ≤ j → j < n + 1 → fullB (mulT P j) P = false from fun j a b => by
          rcases Nat.lt_or_ge j n with h | h
          · exact hno.out j a h
          · obtain rfl : j = n := by omega
            exact hf)
        clear hf
        go_wp2_with (go_at_call 98; with_reducible refine (HRn.out _).mono ?_; rintro e1 w1 ⟨rfl, hb1⟩; obtain ⟨hc1, hf1⟩ := bcell hb1; have hB1 : Below w.heap.size w w1 := (below_then (by first | (go_grown; done) | (repeat (first | (with_reducible assumption) | (with_reducible exact Below.refl _ _) | (with_reducible refine below_drewN' ?_ _) | (with_reducible refine Below.drew ?_) | ((with_reducible refine Below.alloc ?_ ?_ _); rotate_left; focus (first | (simp; done) | (simp; omega) | omega)) | ((with_reducible refine Below.setCell ?_ ?_ _); rotate_left; focus (first | (simp; done) | (simp; omega) | omega))))) (by first | omega | (simp; done) | (simp; omega)) hb1); have hz1a : w.heap.size < w1.heap.size := (by have := hb1.size; first | omega | (simp at this; omega)))
        have hh1 := Lib.hid (blk_below hh.out hb1 hz)
        go_roundw
        case rel => exact ⟨n + 1, by omega, by omega, by go_num, HNO, hh1, Lib.hid hB1⟩
        case measure => simp [intOf]; omega
      · rw [hf] at HRn
        have HF := Lib.hid (fieldP_hit (P := P) (G := G) (h := n) (by
          rcases Nat.lt_or_ge n 2 with h | h
          · obtain rfl : n = 1 := by omega
            rw [full_one (by omega)] at hf; cases hf
          · exact h) hlt hf)
        clear hf
        go_wp2_with (go_at_call 98; with_reducible refine (HRn.out _).mono ?_; rintro e1 w1 ⟨rfl, hb1⟩; obtain ⟨hc1, hf1⟩ := bcell hb1; have hB1 : Below w.heap.size w w1 := (below_then (by first | (go_grown; done) | (repeat (first | (with_reducible assumption) | (with_reducible exact Below.refl _ _) | (with_reducible refine below_drewN' ?_ _) | (with_reducible refine Below.drew ?_) | ((with_reducible refine Below.alloc ?_ ?_ _); rotate_left; focus (first | (simp; done) | (simp; omega) | omega)) | ((with_reducible refine Below.setCell ?_ ?_ _); rotate_left; focus (first | (simp; done) | (simp; omega) | omega))))) (by first | omega | (simp; done) | (simp; omega)) hb1); have hz1a : w.heap.size < w1.heap.size := (by have := hb1.size; first | omega | (simp at this; omega)))
        go_ret
        exact ⟨ret_bool HF.out.symm, by (repeat (first | (with_reducible assumption) | (with_reducible exact Below.refl _ _) | (with_reducible refine below_drewN' ?_ _) | (with_reducible refine Below.drew ?_) | ((with_reducible refine Below.alloc ?_ ?_ _); rotate_left; focus (first | (simp; done) | (simp; omega) | omega)) | ((with_reducible refine Below.setCell ?_ ?_ _); rotate_left; focus (first | (simp; done) | (simp; omega) | omega))))⟩
    · obtain rfl : n = G := by omega
      have HRn := Lib.hid (HR.out n hGP)
      have HF : Hid (fieldP P n = fullB (mulT P n) P) := Lib.hid (by
        rcases Nat.lt_or_ge n 2 with h | h
        · obtain rfl : n = 1 := by omega
          rw [full_one (by omega), fieldP_no (.inr (.inr rfl))]
        · exact fieldP_end H1.out H2.out h hGP hno.out)
      go_wp2_with (go_at_call 98; with_reducible refine (HRn.out _).mono ?_; rintro e1 w1 ⟨rfl, hb1⟩; obtain ⟨hc1, hf1⟩ := bcell hb1; have hB1 : Below w.heap.size w w1 := (below_then (by first | (go_grown; done) | (repeat (first | (with_reducible assumption) | (with_reducible exact Below.refl _ _) | (with_reducible refine below_drewN' ?_ _) | (with_reducible refine Below.drew ?_) | ((with_reducible refine Below.alloc ?_ ?_ _); rotate_left; focus (first | (simp; done) | (simp; omega) | omega)) | ((with_reducible refine Below.setCell ?_ ?_ _); rotate_left; focus (first | (simp; done) | (simp; omega) | omega))))) (by first | omega | (simp; done) | (simp; omega)) hb1); have hz1a : w.heap.size < w1.heap.size := (by have := hb1.size; first | omega | (simp at this; omega)))
      go_ret
      exact ⟨ret_bool HF.out.symm, by (repeat (first | (with_reducible assumption) | (with_reducible exact Below.refl _ _) | (with_reducible refine below_drewN' ?_ _) | (with_reducible refine Below.drew ?_) | ((with_reducible refine Below.alloc ?_ ?_ _); rotate_left; focus (first | (simp; done) | (simp; omega) | omega)) | ((with_reducible refine Below.setCell ?_ ?_ _); rotate_left; focus (first | (simp; done) | (simp; omega) | omega))))⟩
set_option maxHeartbeats 4000000 in
theorem sIsField_two (p k g : Int) (w : World) (hk : k ≠ 1) :
    Calls Try.prog 66 #[.agg #[.int .i64 p, .int .i64 k, .int .i64 g]] w fun e w' => e = .returned (.bool (fieldB p k g)) ∧ Below w.heap.size w w' := by
  rw [fieldB_two hk]
  have hk1 : (k == 1) = false := by simpa using hk
  clear hk
  by_cases hp : p = 2
  · subst hp
    cases h1 : inR k 3 8
    · have HF : Hid (((2 : Int) == 2 && fieldT k g) = false) := Lib.hid (by simp [fieldT, h1])
      go_enter Try.func66, Try.ntmps66
      go_wp2_with (go_at_call 47; refine (l01In_any _ _ _ _).mono ?_; rintro e w' ⟨rfl, rfl⟩)
      go_ret
      exact ⟨ret_bool HF.out.symm, by (repeat (first | (with_reducible assumption) | (with_reducible exact Below.refl _ _) | (with_reducible refine below_drewN' ?_ _) | (with_reducible refine Below.drew ?_) | ((with_reducible refine Below.alloc ?_ ?_ _); rotate_left; focus (first | (simp; done) | (simp; omega) | omega)) | ((with_reducible refine Below.setCell ?_ ?_ _); rotate_left; focus (first | (simp; done) | (simp; omega) | omega))))⟩
    have b1 := inR_true h1
    obtain ⟨K, rfl⟩ := Int.eq_ofNat_of_zero_le (show 0 ≤ k by omega)
    have hpw := pow2_bd (k := K) (by omega)
    have hpe : (2 : Int) ^ (K + 1) = 2 * 2 ^ K := by rw [Int.pow_succ]; omega
    cases h2 : inR g ((2 : Int) ^ K) (2 * 2 ^ K - 1)
    · have HF : Hid (((2 : Int) == 2 && fieldT K g) = false) := Lib.hid (by simp [fieldT, hpe, h2])
      clear hpe
      go_enter Try.func66, Try.ntmps66
      go_wp2_with (go_at_call 47; refine (l01In_any _ _ _ _).mono ?_; rintro e w' ⟨rfl, rfl⟩)
      go_ret
      exact ⟨ret_bool HF.out.symm, by (repeat (first | (with_reducible assumption) | (with_reducible exact Below.refl _ _) | (with_reducible refine below_drewN' ?_ _) | (with_reducible refine Below.drew ?_) | ((with_reducible refine Below.alloc ?_ ?_ _); rotate_left; focus (first | (simp; done) | (simp; omega) | omega)) | ((with_reducible refine Below.setCell ?_ ?_ _); rotate_left; focus (first | (simp; done) | (simp; omega) | omega))))⟩
    have b2 := inR_true h2
    obtain ⟨G, rfl⟩ := Int.eq_ofNat_of_zero_le (show 0 ≤ g by omega)
    have e1 : ((2 ^ K : Nat) : Int) = (2 : Int) ^ K := by simp
    have HF : Hid (((2 : Int) == 2 && fieldT K G) = fullB (dblT K G) (2 ^ K)) := Lib.hid (by rw [fieldT_end h1 (by rw [hpe]; exact h2)]; rfl)
    have HR := Lib.hid (fun w => l02Runs_two 2 K G w (by omega) (by omega) (by omega) (by rw [Nat.pow_succ]; omega))
    clear hpe e1
    go_enter Try.func66, Try.ntmps66
    go_wp2_with first | (go_at_call 47; refine (l01In_any _ _ _ _).mono ?_; rintro e w' ⟨rfl, rfl⟩) | (go_at_call 98; with_reducible refine (HR.out _).mono ?_; rintro e1 w1 ⟨rfl, hb1⟩; obtain ⟨hc1, hf1⟩ := bcell hb1; have hB1 : Below w.heap.size w w1 := (below_then (by first | (go_grown; done) | (repeat (first | (with_reducible assumption) | (with_reducible exact Below.refl _ _) | (with_reducible refine below_drewN' ?_ _) | (with_reducible refine Below.drew ?_) | ((with_reducible refine Below.alloc ?_ ?_ _); rotate_left; focus (first | (simp; done) | (simp; omega) | omega)) | ((with_reducible refine Below.setCell ?_ ?_ _); rotate_left; focus (first | (simp; done) | (simp; omega) | omega))))) (by first | omega | (simp; done) | (simp; omega)) hb1); have hz1a : w.heap.size < w1.heap.size := (by have := hb1.size; first | omega | (simp at this; omega)))
    go_ret
    exact ⟨ret_bool HF.out.symm, by (repeat (first | (with_reducible assumption) | (with_reducible exact Below.refl _ _) | (with_reducible refine below_drewN' ?_ _) | (with_reducible refine Below.drew ?_) | ((with_reducible refine Below.alloc ?_ ?_ _); rotate_left; focus (first | (simp; done) | (simp; omega) | omega)) | ((with_reducible refine Below.setCell ?_ ?_ _); rotate_left; focus (first | (simp; done) | (simp; omega) | omega))))⟩
  · have hp2 : (p == 2) = false := by simpa using hp
    have hp3 : (p != 2) = true := by simpa using hp
    go_enter Try.func66, Try.ntmps66
    go_wp2_with (go_at_call 47; refine (l01In_any _ _ _ _).mono ?_; rintro e w' ⟨rfl, rfl⟩)
    go_ret
    exact ⟨ret_bool (by simp [hp]), by (repeat (first | (with_reducible assumption) | (with_reducible exact Below.refl _ _) | (with_reducible refine below_drewN' ?_ _) | (with_reducible refine Below.drew ?_) | ((with_reducible refine Below.alloc ?_ ?_ _); rotate_left; focus (first | (simp; done) | (simp; omega) | omega)) | ((with_reducible refine Below.setCell ?_ ?_ _); rotate_left; focus (first | (simp; done) | (simp; omega) | omega))))⟩
theorem sIsField_any (p k g : Int) (w : World) :
    Calls Try.prog 66 #[.agg #[.int .i64 p, .int .i64 k, .int .i64 g]] w fun e w' => e = .returned (.bool (fieldB p k g)) ∧ Below w.heap.size w w' := by
  by_cases hk : k = 1
  · subst hk; exact sIsField_one p g w
  · exact sIsField_two p k g w hk
end Go.Proofs.Ytbgcbjfimjfbpaa
