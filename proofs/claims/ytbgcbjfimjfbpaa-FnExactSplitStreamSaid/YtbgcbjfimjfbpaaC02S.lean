/-
  Contracts of chapter 2, the reference: sizes, products with a generator, which elements run through all others.
-/
import Derived.Test.YtbgcbjfimjfbpaaC02
import Derived.Test.YtbgcbjfimjfbpaaBits
import Derived.Test.YtbgcbjfimjfbpaaBlk
namespace Go.Proofs.Ytbgcbjfimjfbpaa
set_option linter.unusedSimpArgs false
open Go.RowKit

theorem pow2_bd {k : Nat} (hk : k ≤ 31) : (0 : Int) < 2 ^ k ∧ (2 : Int) ^ k ≤ 2147483648 := by
  have h1 := Nat.two_pow_pos k
  have h2 : 2 ^ k ≤ 2 ^ 31 := Nat.pow_le_pow_right (by decide) hk
  have e : ((2 ^ k : Nat) : Int) = (2 : Int) ^ k := by simp
  rw [← e]; omega
theorem l02Size_one (p g : Int) (w : World) :
    Calls Try.prog 88 #[.agg #[.int .i64 p, .int .i64 1, .int .i64 g]] w fun e w' => e = .returned (.int .i64 p) ∧ Below w.heap.size w w' := by
  go_enter Try.func88, Try.ntmps88
  go_wp2_with fail
  go_ret
  exact ⟨rfl, by (repeat (first | (with_reducible assumption) | (with_reducible exact Below.refl _ _) | (with_reducible refine below_drewN' ?_ _) | (with_reducible refine Below.drew ?_) | ((with_reducible refine Below.alloc ?_ ?_ _); rotate_left; focus (first | (simp; done) | (simp; omega) | omega)) | ((with_reducible refine Below.setCell ?_ ?_ _); rotate_left; focus (first | (simp; done) | (simp; omega) | omega))))⟩
theorem l02Size_two (p g : Int) (K : Nat) (w : World) (hK : 3 ≤ K) (hK2 : K ≤ 8) :
    Calls Try.prog 88 #[.agg #[.int .i64 p, .int .i64 K, .int .i64 g]] w fun e w' => e = .returned (.int .i64 (2 ^ K : Nat)) ∧ Below w.heap.size w w' := by
  have hk1 : ((K : Int) == 1) = false := by simp; omega
  have hp := pow2_bd (k := K) (by omega)
  go_enter Try.func88, Try.ntmps88
  go_wp2_with fail
  go_ret
  exact ⟨ret_int (by simp), by (repeat (first | (with_reducible assumption) | (with_reducible exact Below.refl _ _) | (with_reducible refine below_drewN' ?_ _) | (with_reducible refine Below.drew ?_) | ((with_reducible refine Below.alloc ?_ ?_ _); rotate_left; focus (first | (simp; done) | (simp; omega) | omega)) | ((with_reducible refine Below.setCell ?_ ?_ _); rotate_left; focus (first | (simp; done) | (simp; omega) | omega))))⟩
theorem l02Mul_one (P X G : Nat) (g : Int) (w : World) (hP : 2 ≤ P) (hP2 : P ≤ 1021) (hX : X ≤ 1021) (hG : G ≤ 1021) :
    Calls Try.prog 113 #[.agg #[.int .i64 P, .int .i64 1, .int .i64 g], .int .i64 X, .int .i64 G] w fun e w' => e = .returned (.int .i64 (mulT P G X : Nat)) ∧ Below w.heap.size w w' := by
  have hm : IntKind.i64.wrap ((X : Int) * G) = ((X * G : Nat) : Int) := by
    have := Nat.mul_le_mul hX hG
    rw [← Int.natCast_mul]; exact wr64 (by omega)
  have hr : ((X * G : Nat) : Int) % (P : Int) = ((mulT P G X : Nat) : Int) := by unfold mulT; rw [← Int.natCast_emod]
  have hr2 : ((X * G : Nat) : Int).tmod (P : Int) = ((mulT P G X : Nat) : Int) := by rw [Int.tmod_eq_emod_of_nonneg (by omega), hr]
  generalize mulT P G X = M at hr hr2 ⊢
  generalize X * G = E at hm hr hr2
  have hP0 : ¬ P = 0 := by omega
  go_enter Try.func113, Try.ntmps113
  go_wp2_with fail
  go_ret
  exact ⟨rfl, by (repeat (first | (with_reducible assumption) | (with_reducible exact Below.refl _ _) | (with_reducible refine below_drewN' ?_ _) | (with_reducible refine Below.drew ?_) | ((with_reducible refine Below.alloc ?_ ?_ _); rotate_left; focus (first | (simp; done) | (simp; omega) | omega)) | ((with_reducible refine Below.setCell ?_ ?_ _); rotate_left; focus (first | (simp; done) | (simp; omega) | omega))))⟩
theorem two_bit {n : Nat} (h : 2 / 2 ^ n % 2 = 1) : n = 1 := by
  rcases Nat.lt_or_ge n 2 with h2 | h2
  · have : n = 0 ∨ n = 1 := by omega
    rcases this with rfl | rfl
    · simp at h
    · rfl
  · have h4 : 2 ^ 2 ≤ 2 ^ n := Nat.pow_le_pow_right (by decide) h2
    rw [Nat.div_eq_of_lt (by omega)] at h; simp at h
set_option maxHeartbeats 2000000 in
theorem l02Mul_two (p : Int) (K poly X : Nat) (w : World) (hK : 3 ≤ K) (hK2 : K ≤ 8) (_hp1 : 2 ^ K ≤ poly) (hp2 : poly < 2 ^ (K + 1)) (hX : X < 2 ^ K) :
    Calls Try.prog 113 #[.agg #[.int .i64 p, .int .i64 K, .int .i64 poly], .int .i64 X, .int .i64 2] w fun e w' => e = .returned (.int .i64 (dblT K poly X : Nat)) ∧ Below w.heap.size w w' := by
  have hk1 : ((K : Int) == 1) = false := by simp; omega
  have h256 : 2 ^ K ≤ 2 ^ 8 := Nat.pow_le_pow_right (by decide) hK2
  have hX2 : X < 256 := by omega
  have hpl : poly < 512 := by rw [Nat.pow_succ] at hp2; omega
  have hpos := Nat.two_pow_pos K
  have HX := Lib.hid hX
  have HP2 := Lib.hid hp2
  clear hX hp2 h256 hpos
  go_enter Try.func113, Try.ntmps113
  go_wp2_with fail
  go_loop [7, 8] (fun q i => ∃ n o : Nat, n ≤ K ∧ i = .int .i64 n ∧ q = .int .i64 o ∧ o < 512 ∧ Hid (o = if 2 ≤ n then 2 * X else 0)) (fun _ i => K - (intOf i).toNat)
  case atStart => exact ⟨0, 0, Nat.zero_le _, rfl, rfl, by omega, Lib.hid rfl⟩
  case round =>
    obtain ⟨n, o, hn, rfl, rfl, ho, heq⟩ := hrel
    by_cases hlt : n < K
    · by_cases hb : 2 / 2 ^ n % 2 = 1
      · have hn1 := two_bit hb
        subst hn1
        have ho0 : o = 0 := by have := heq.out; simpa using this
        subst ho0
        clear hb
        have ht : (bits .and .i64 ((2 : Int) / 2) 1 == 1) = true := by decide
        have ht' : (bits .and .i64 (1 : Int) 1 == 1) = true := by decide
        have hx : bits .xor .i64 0 ((X : Int) * 2) = ((2 * X : Nat) : Int) := by
          have := i64_xor 0 (X * 2) (by omega) (by omega)
          simpa [Nat.mul_comm] using this
        have HXX := Lib.hid hx
        clear hx
        go_wp2_with fail
        go_round
        case rel => exact ⟨2, 2 * X, by omega, rfl, by rw [← HXX.out], by omega, Lib.hid (by simp)⟩
        case measure => simp [intOf]; omega
      · have ht := i64_bit_no (r := 2) (j := n) (by omega) hb
        have ht2 : (bits .and .i64 ((2 : Int) / 2 ^ n) 1 == 1) = false := ht
        have hn1 : n ≠ 1 := by rintro rfl; exact hb rfl
        clear hb ht
        go_wp2_with fail
        go_round
        case rel => exact ⟨n + 1, o, by omega, by go_num, rfl, ho, Lib.hid (by rw [heq.out]; by_cases h2 : 2 ≤ n <;> simp [h2] <;> omega)⟩
        case measure => simp [intOf]; omega
    · have hoX : o = 2 * X := by rw [heq.out, if_pos (by omega)]
      have HO := Lib.hid hoX
      clear hoX
      go_wp2_with fail
      go_loop [7, 9] (fun q i => ∃ n r : Nat, n ≤ K + 1 ∧ i = .int .i64 ((K : Int) + n - 1) ∧ q = .int .i64 r ∧ r < 1024 ∧ Hid (r = if n = 0 then dblT K poly X else 2 * X)) (fun _ i => (intOf i + 1 - K).toNat)
      case atStart => exact ⟨K + 1, o, by omega, by go_num, rfl, by omega, Lib.hid (by rw [HO.out, if_neg (by omega)])⟩
      case round =>
        obtain ⟨m, r, hm, rfl, rfl, hr, hre⟩ := hrel
        rcases m with _ | m
        · have hre' : r = dblT K poly X := hre.out
          have HR := Lib.hid hre'
          clear hre'
          go_wp2_with fail
          go_ret
          exact ⟨ret_int (by rw [HR.out]), by (repeat (first | (with_reducible assumption) | (with_reducible exact Below.refl _ _) | (with_reducible refine below_drewN' ?_ _) | (with_reducible refine Below.drew ?_) | ((with_reducible refine Below.alloc ?_ ?_ _); rotate_left; focus (first | (simp; done) | (simp; omega) | omega)) | ((with_reducible refine Below.setCell ?_ ?_ _); rotate_left; focus (first | (simp; done) | (simp; omega) | omega))))⟩
        · have hr2 : r = 2 * X := by have := hre.out; simpa using this
          have hr62 : r < 4611686018427387904 := by omega
          by_cases hb : r / 2 ^ (K + m) % 2 = 1
          · have hm0 : m = 0 := by
              rcases Nat.eq_zero_or_pos m with h | h
              · exact h
              · have h1 : 2 ^ (K + 1) ≤ 2 ^ (K + m) := Nat.pow_le_pow_right (by decide) (by omega)
                have h2 : 2 ^ (K + 1) = 2 ^ K * 2 := Nat.pow_succ ..
                have h3 := HX.out
                rw [Nat.div_eq_of_lt (by omega)] at hb; simp at hb
            subst hm0
            have hle : 2 ^ K ≤ 2 * X := by
              rcases Nat.lt_or_ge (2 * X) (2 ^ K) with h | h
              · rw [hr2, Nat.add_zero, Nat.div_eq_of_lt h] at hb; simp at hb
              · exact h
            have ht := i64_bit_yes (j := K) hr62 (by simpa using hb)
            have hx : bits .xor .i64 (r : Int) (poly : Int) = ((dblT K poly X : Nat) : Int) := by
              rw [i64_xor r poly hr62 (by omega), hr2]; unfold dblT; rw [if_pos hle]
            have hdl : dblT K poly X < 1024 := by
              unfold dblT; rw [if_pos hle]
              exact Nat.xor_lt_two_pow (n := 10) (by omega) (by omega)
            have HXX := Lib.hid hx
            have HD := Lib.hid hdl
            clear hx hb hle hdl hr2
            go_wp2_with fail
            go_round
            case rel => exact ⟨0, dblT K poly X, by omega, by go_num, by first | rw [← HXX.out] | (rw [HXX.out]) | simp [HXX.out], HD.out, Lib.hid rfl⟩
            case measure => simp [intOf]
          · have ht := i64_bit_no (j := K + m) hr62 hb
            have hst : r = if m = 0 then dblT K poly X else 2 * X := by
              by_cases h0 : m = 0
              · subst h0
                rw [if_pos rfl]
                unfold dblT
                have h1 : ¬ 2 ^ K ≤ 2 * X := by
                  intro h
                  apply hb
                  rw [hr2, Nat.add_zero]
                  have h3 := HX.out
                  have : 2 * X / 2 ^ K = 1 := by
                    apply Nat.div_eq_of_lt_le <;> omega
                  rw [this]
                rw [if_neg h1]; exact hr2
              · rw [if_neg h0]; exact hr2
            have HS := Lib.hid hst
            clear hb hst hr2
            go_wp2_with fail
            go_round
            case rel => exact ⟨m, r, by omega, by go_num, rfl, hr, HS⟩
            case measure => simp [intOf]; omega
set_option maxHeartbeats 2000000 in
theorem l02Runs_gen (p k g : Int) (T : Nat → Nat) (S G : Nat) (w : World) (hS : 3 ≤ S) (hS2 : S ≤ 1021) (hlt : ∀ n, pw T n < S) (hG : T 1 = G)
    (HSZ : ∀ w, Calls Try.prog 88 #[.agg #[.int .i64 p, .int .i64 k, .int .i64 g]] w fun e w' => e = .returned (.int .i64 S) ∧ Below w.heap.size w w')
    (HM : ∀ (x : Nat) (w : World), x < S → Calls Try.prog 113 #[.agg #[.int .i64 p, .int .i64 k, .int .i64 g], .int .i64 x, .int .i64 G] w fun e w' => e = .returned (.int .i64 (T x : Nat)) ∧ Below w.heap.size w w') :
    Calls Try.prog 98 #[.agg #[.int .i64 p, .int .i64 k, .int .i64 g], .int .i64 G] w fun e w' => e = .returned (.bool (fullB T S)) ∧ Below w.heap.size w w' := by
  have HSS := Lib.hid HSZ
  have HMM := Lib.hid HM
  have HPW := Lib.hid hlt
  have HG := Lib.hid hG
  clear HM hlt hG HSZ
  go_enter Try.func98, Try.ntmps98
  go_wp2_with fail
  go_loopw [5, 6] (fun q i wr => ∃ n : Nat, 1 ≤ n ∧ n ≤ S ∧ i = .int .i64 n ∧ q = .int .i64 (pw T n : Nat) ∧ Hid (openB T n) ∧ Hid (wr.heap[w.heap.size]? = some (.cells #[.int .i64 p, .int .i64 k, .int .i64 g] 28 (0, 0))) ∧ Hid (Below w.heap.size w wr))
    (fun _ i _ => S - (intOf i).toNat)
  case atStart => exact ⟨1, Nat.le_refl _, by omega, rfl, by rw [show pw T 1 = T 1 from rfl, HG.out], Lib.hid (openB_one T), Lib.hid (heap_alloc_new _ _), Lib.hid (by go_grown)⟩
  case round =>
    rename World => wo
    obtain ⟨n, hn1, hn, rfl, rfl, hop, hh, hbl⟩ := hrel
    obtain ⟨c0, c1, c2, -⟩ := blk3 hh.out
    have hz := lt_of_block hh.out
    have hbw := hbl.out
    obtain ⟨X, hX⟩ : ∃ X, pw T n = X := ⟨_, rfl⟩
    have hXS := HPW.out n
    rw [hX] at hXS
    have HX := Lib.hid hX
    rw [hX]
    clear hX
    have hS1 : IntKind.i64.wrap ((S : Int) - 1) = ((S - 1 : Nat) : Int) := by rw [wr64 (by omega)]; omega
    by_cases hX1 : X = 1
    · subst hX1
      have hE := runs_end hop.out hn1 hn hS (.inl HX.out)
      rw [HX.out] at hE
      have HE := Lib.hid hE
      clear hE
      go_wp2_with (go_at_call 88; with_reducible refine (HSS.out _).mono ?_; rintro e1 w1 ⟨rfl, hb1⟩; obtain ⟨hc1, hf1⟩ := bcell hb1; have hB1 : Below w.heap.size w w1 := (below_then (by first | (go_grown; done) | (repeat (first | (with_reducible assumption) | (with_reducible exact Below.refl _ _) | (with_reducible refine below_drewN' ?_ _) | (with_reducible refine Below.drew ?_) | ((with_reducible refine Below.alloc ?_ ?_ _); rotate_left; focus (first | (simp; done) | (simp; omega) | omega)) | ((with_reducible refine Below.setCell ?_ ?_ _); rotate_left; focus (first | (simp; done) | (simp; omega) | omega))))) (by first | omega | (simp; done) | (simp; omega)) hb1); have hz1a : w.heap.size < w1.heap.size := (by have := hb1.size; first | omega | (simp at this; omega)))
      go_ret
      exact ⟨ret_bool (by rw [← HE.out, Bool.eq_iff_iff]; simp; omega), by (repeat (first | (with_reducible assumption) | (with_reducible exact Below.refl _ _) | (with_reducible refine below_drewN' ?_ _) | (with_reducible refine Below.drew ?_) | ((with_reducible refine Below.alloc ?_ ?_ _); rotate_left; focus (first | (simp; done) | (simp; omega) | omega)) | ((with_reducible refine Below.setCell ?_ ?_ _); rotate_left; focus (first | (simp; done) | (simp; omega) | omega))))⟩
    · by_cases hX0 : X = 0
      · subst hX0
        have hE := runs_end hop.out hn1 hn hS (.inr (.inl HX.out))
        rw [HX.out] at hE
        have HE := Lib.hid hE
        clear hE
        go_wp2_with fail
        go_ret
        exact ⟨ret_bool (by rw [← HE.out]; simp), by (repeat (first | (with_reducible assumption) | (with_reducible exact Below.refl _ _) | (with_reducible refine below_drewN' ?_ _) | (with_reducible refine Below.drew ?_) | ((with_reducible refine Below.alloc ?_ ?_ _); rotate_left; focus (first | (simp; done) | (simp; omega) | omega)) | ((with_reducible refine Below.setCell ?_ ?_ _); rotate_left; focus (first | (simp; done) | (simp; omega) | omega))))⟩
      · have hx1 : ((X : Int) == 1) = false := by simp; omega
        have hx0 : ((X : Int) == 0) = false := by simp; omega
        have hx1' : ((X : Int) != 1) = true := by simp; omega
        have hx0' : ((X : Int) != 0) = true := by simp; omega
        by_cases hnS : n = S
        · subst hnS
          have hE := runs_end hop.out hn1 hn hS (.inr (.inr rfl))
          rw [HX.out] at hE
          have HE := Lib.hid hE
          clear hE
          go_wp2_with (go_at_call 88; with_reducible refine (HSS.out _).mono ?_; rintro e1 w1 ⟨rfl, hb1⟩; obtain ⟨hc1, hf1⟩ := bcell hb1; have hB1 : Below w.heap.size w w1 := (below_then (by first | (go_grown; done) | (repeat (first | (with_reducible assumption) | (with_reducible exact Below.refl _ _) | (with_reducible refine below_drewN' ?_ _) | (with_reducible refine Below.drew ?_) | ((with_reducible refine Below.alloc ?_ ?_ _); rotate_left; focus (first | (simp; done) | (simp; omega) | omega)) | ((with_reducible refine Below.setCell ?_ ?_ _); rotate_left; focus (first | (simp; done) | (simp; omega) | omega))))) (by first | omega | (simp; done) | (simp; omega)) hb1); have hz1a : w.heap.size < w1.heap.size := (by have := hb1.size; first | omega | (simp at this; omega)))
          go_ret
          exact ⟨ret_bool (by rw [← HE.out]; simp [hX1]), by (repeat (first | (with_reducible assumption) | (with_reducible exact Below.refl _ _) | (with_reducible refine below_drewN' ?_ _) | (with_reducible refine Below.drew ?_) | ((with_reducible refine Below.alloc ?_ ?_ _); rotate_left; focus (first | (simp; done) | (simp; omega) | omega)) | ((with_reducible refine Below.setCell ?_ ?_ _); rotate_left; focus (first | (simp; done) | (simp; omega) | omega))))⟩
        · have hns : (n : Int) < (S : Int) := by omega
          have HMX := Lib.hid (fun w => HMM.out X w hXS)
          have HOP := Lib.hid (openB_succ hop.out (by rw [HX.out]; exact hX0) (by rw [HX.out]; exact hX1))
          go_wp2_with (go_at_call 88; with_reducible refine (HSS.out _).mono ?_; rintro e1 w1 ⟨rfl, hb1⟩; obtain ⟨hc1, hf1⟩ := bcell hb1; have hB1 : Below w.heap.size w w1 := (below_then (by first | (go_grown; done) | (repeat (first | (with_reducible assumption) | (with_reducible exact Below.refl _ _) | (with_reducible refine below_drewN' ?_ _) | (with_reducible refine Below.drew ?_) | ((with_reducible refine Below.alloc ?_ ?_ _); rotate_left; focus (first | (simp; done) | (simp; omega) | omega)) | ((with_reducible refine Below.setCell ?_ ?_ _); rotate_left; focus (first | (simp; done) | (simp; omega) | omega))))) (by first | omega | (simp; done) | (simp; omega)) hb1); have hz1a : w.heap.size < w1.heap.size := (by have := hb1.size; first | omega | (simp at this; omega)))
          have hh1 := Lib.hid (blk_below hh.out hb1 hz)
          obtain ⟨d0, d1, d2, -⟩ := blk3 hh1.out
          clear hc1 hf1
          go_wp2_with (go_at_call 113; with_reducible refine (HMX.out _).mono ?_; rintro e2 w2 ⟨rfl, hb2⟩; obtain ⟨hc2, hf2⟩ := bcell hb2; have hB2 : Below w.heap.size w w2 := (below_then (by first | (go_grown; done) | (repeat (first | (with_reducible assumption) | (with_reducible exact Below.refl _ _) | (with_reducible refine below_drewN' ?_ _) | (with_reducible refine Below.drew ?_) | ((with_reducible refine Below.alloc ?_ ?_ _); rotate_left; focus (first | (simp; done) | (simp; omega) | omega)) | ((with_reducible refine Below.setCell ?_ ?_ _); rotate_left; focus (first | (simp; done) | (simp; omega) | omega))))) (by first | omega | (simp; done) | (simp; omega)) hb2); have hz2a : w.heap.size < w2.heap.size := (by have := hb2.size; first | omega | (simp at this; omega)))
          have hh2 := Lib.hid (blk_below hh1.out hb2 hz1a)
          clear hc2 hf2 d0 d1 d2 c0 c1 c2
          go_roundw
          case rel => exact ⟨n + 1, by omega, by omega, by go_num, by rw [show pw T (n + 1) = T (pw T n) from rfl, HX.out], HOP, hh2, Lib.hid hB2⟩
          case measure => simp [intOf]; omega
end Go.Proofs.Ytbgcbjfimjfbpaa
