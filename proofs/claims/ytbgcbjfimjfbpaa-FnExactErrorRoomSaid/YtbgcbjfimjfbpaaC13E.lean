/-
  Contracts of chapter 13: how many elements a symbol has.
-/
import Derived.Test.YtbgcbjfimjfbpaaC13G
import Derived.Test.YtbgcbjfimjfbpaaC15C
namespace Go.Proofs.Ytbgcbjfimjfbpaa
set_option linter.unusedSimpArgs false
open Go.RowKit

/-- How many elements a symbol of a valid family has. -/
def elN (kind p k col size : Int) : Nat := if kind = 2 then size.toNat * col.toNat else (dataL size.toNat).length / (widV (fsize p k)).toNat
theorem field2 {k g : Int} (h : fieldB 2 k g = true) : ∃ K : Nat, k = K ∧ 3 ≤ K ∧ K ≤ 8 ∧ fsize 2 k = ((2 ^ K : Nat) : Int) ∧ widV (fsize 2 k) = K := by
  have hk : k ≠ 1 := by
    rintro rfl
    have h1 : inR 2 3 1021 = false := by decide
    rw [fieldB_one, fieldP_no (.inl h1)] at h; cases h
  rw [fieldB_two hk] at h
  simp only [Bool.and_eq_true, fieldT] at h
  have b := inR_true h.2.1.1
  obtain ⟨K, rfl⟩ := Int.eq_ofNat_of_zero_le (show 0 ≤ k by omega)
  have hs : fsize 2 K = ((2 ^ K : Nat) : Int) := by unfold fsize; rw [if_neg hk, Int.toNat_natCast]; simp
  refine ⟨K, rfl, by omega, by omega, hs, ?_⟩
  rw [hs]; unfold widV; rw [Int.toNat_natCast, log2_of (Nat.le_refl _) (by rw [Nat.pow_succ]; have := Nat.two_pow_pos K; omega)]
/-- A valid family and one of its sizes. -/
def FamSz (kind p k g col size : Int) : Prop :=
  (kind = 1 ∧ p = 2 ∧ fieldB 2 k g = true ∧ ∃ N : Nat, size = N ∧ 17 ≤ N ∧ N ≤ 41 ∧ N % 4 = 1) ∨ (kind = 2 ∧ p = 2 ∧ k = 5 ∧ g = 37 ∧ ∃ C N : Nat, col = C ∧ size = N ∧ 1 ≤ C ∧ C ≤ 8 ∧ 3 ≤ N ∧ N ≤ 24)
theorem fam_size {s : ByteArray} {kind p k g col size : Int} {n1 n2 : Nat} {sz lv : List Int} (h : famB s kind p k g col n1 sz n2 lv = true) (hs : hasB size sz = true) : FamSz kind p k g col size := by
  obtain ⟨i, hi, rfl⟩ := hasB_mem hs
  unfold famB at h
  simp only [Bool.and_eq_true] at h
  have h5 := h.2.2.2.2
  by_cases h1 : kind = 1
  · rw [if_pos h1] at h5
    simp only [Bool.and_eq_true, beq_iff_eq] at h5
    obtain ⟨rfl, h6, h7, h8, h9⟩ := h5
    left
    refine ⟨h1, rfl, h6, ?_⟩
    have := sizes_of h8 hi
    rw [List.all_eq_true.1 h9 _ (nth_mem hi)] at this
    exact sizeB_true this
  · rw [if_neg h1] at h5
    simp only [Bool.and_eq_true, beq_iff_eq, fld32] at h5
    obtain ⟨h2, ⟨rfl, rfl, rfl⟩, h7, h8⟩ := h5
    right
    have b := inR_true h7
    have c := risB_in h8 hi
    exact ⟨h2, rfl, rfl, rfl, col.toNat, (nth sz i).toNat, by omega, by omega, by omega, by omega, by omega, by omega⟩
theorem FamSz.field {kind p k g col size : Int} (h : FamSz kind p k g col size) : fieldB p k g = true ∧ ∃ S : Nat, fsize p k = S ∧ 8 ≤ S ∧ S ≤ 256 := by
  rcases h with ⟨-, rfl, h, -⟩ | ⟨-, rfl, rfl, rfl, -⟩
  · obtain ⟨K, rfl, h3, h8, hs, -⟩ := field2 h
    exact ⟨h, 2 ^ K, hs, (pow2_size h3 h8).1, (pow2_size h3 h8).2⟩
  · exact ⟨f32_yes, 32, by decide, by omega, by omega⟩
def lenOk : Bool := sizes.all fun N => decide (40 ≤ (dataF N).length)
theorem lenOk_true : lenOk = true := by decide +kernel
theorem data_len {N : Nat} (h : 17 ≤ N ∧ N ≤ 41 ∧ N % 4 = 1) : 40 ≤ (dataL N).length ∧ (dataL N).length ≤ 1680 := by
  constructor
  · rw [data_F h]
    have h1 := List.all_eq_true.1 lenOk_true N (size_mem h)
    simpa using h1
  · have := data_count h
    have h4 := cnt_take_le negB (fixL N) (N * N)
    have h5 : (fixL N).take (N * N) = fixL N := List.take_of_length_le (by rw [fixL_len]; exact Nat.le_refl _)
    have h6 : N * N ≤ 41 * 41 := Nat.mul_le_mul h.2.1 h.2.1
    rw [h5] at h4
    omega
theorem elN_bd {kind p k g col size : Int} (h : FamSz kind p k g col size) : 1 ≤ elN kind p k col size ∧ elN kind p k col size ≤ 1680 := by
  rcases h with ⟨rfl, rfl, h, N, rfl, h1, h2, h3⟩ | ⟨rfl, rfl, rfl, rfl, C, N, rfl, rfl, h1, h2, h3, h4⟩
  · obtain ⟨K, rfl, h3', h8, hs, hw⟩ := field2 h
    unfold elN
    rw [if_neg (by decide), hw, Int.toNat_natCast, Int.toNat_natCast]
    have hl := data_len ⟨h1, h2, h3⟩
    generalize (dataL N).length = L at hl
    constructor
    · exact (Nat.one_le_div_iff (by omega)).2 (by omega)
    · exact Nat.le_trans (Nat.div_le_self _ _) hl.2
  · unfold elN
    rw [if_pos rfl, Int.toNat_natCast, Int.toNat_natCast]
    have a := Nat.mul_le_mul h4 h2
    have b := Nat.mul_le_mul h3 h1
    omega
theorem quo_facts (L K : Nat) (hL : L ≤ 1000000) : (L : Int) / K = ((L / K : Nat) : Int) ∧ (L : Int).tdiv K = ((L / K : Nat) : Int) ∧ IntKind.i64.wrap ((L / K : Nat) : Int) = ((L / K : Nat) : Int) := by
  have h1 : L / K ≤ L := Nat.div_le_self _ _
  refine ⟨by simp, by rw [Int.tdiv_eq_ediv_of_nonneg (by omega)]; simp, wr64 (by generalize L / K = Q at h1; omega)⟩
set_option maxHeartbeats 2000000 in
theorem elements_any (s : ByteArray) (kind p k g col : Int) (A1 A2 : Option Addr) (n1 c1 n2 c2 : Nat) (_sz _lv : List Int) (size : Int) (w : World) (h : FamSz kind p k g col size) :
    Calls Try.prog 69 #[.agg #[.string s, .int .i64 kind, .int .i64 p, .int .i64 k, .int .i64 g, .slice A1 n1 c1, .int .i64 col, .slice A2 n2 c2], .int .i64 size] w fun e w' => e = .returned (.int .i64 (elN kind p k col size : Nat)) ∧ Below w.heap.size w w' := by
  rcases h with ⟨rfl, rfl, h, N, rfl, h1, h2, h3⟩ | ⟨rfl, rfl, rfl, rfl, C, N, rfl, rfl, h1, h2, h3, h4⟩
  · have HW := Lib.hid (fun w => FieldWidth_any 2 k g w h)
    obtain ⟨K, rfl, hk3, hk8, hs, hw⟩ := field2 h
    have HD := Lib.hid (fun w => DataCount_any N w)
    have hdc : dcV (N : Int) = (((dataL N).length : Nat) : Int) := by unfold dcV; rw [show sizeB (N : Int) = true by unfold sizeB; rw [inR_mk (by omega) (by omega), Int.tmod_eq_emod_of_nonneg (by omega)]; simp; omega]; simp
    rw [hdc] at HD
    clear hdc
    have hl := data_len ⟨h1, h2, h3⟩
    have HE : Hid (elN 1 2 K col N = (dataL N).length / K) := Lib.hid (by unfold elN; rw [if_neg (by decide), hw, Int.toNat_natCast, Int.toNat_natCast])
    rw [hw] at HW
    clear hs hw h h3
    generalize (dataL N).length = L at *
    obtain ⟨q1, q2, q3⟩ := quo_facts L K (by omega)
    generalize L / K = Q at *
    have hK0 : ¬ K = 0 := by omega
    go_enter Try.func69, Try.ntmps69
    go_wp2_with fail
    refine wp_region_qat [] 7 [] (by kernel_rfl) (by kernel_rfl) ?_
    intro hbc
    simp only [List.take_succ_cons, List.take_zero, List.drop_succ_cons, List.drop_zero]
    repeat (first
      | refine wpQ_pass rfl ?_
      | (refine wpQ_step rfl (fun K hK => ?_)
         go_simp
         first
           | (refine hK _ ?_; clear hK K)
           | (apply Exists.intro
              refine ⟨fun z => ?_, ?_⟩
              focus (first | (go_at_call 99; exact HD.out _) | (go_at_call 24; exact HW.out _))
              refine hK _ ?_
              clear hK K)))
    refine wpQ_nil ⟨?_, ?_⟩
    · exact rfl
    intro  w1 hb1 hF1
    clear hbc
    obtain ⟨hc1, hf1⟩ := bcell hb1
    have hB1 : Below w.heap.size w w1 := below_then (by first | (go_grown; done) | (repeat (first | (with_reducible assumption) | (with_reducible exact Below.refl _ _) | (with_reducible refine below_drewN' ?_ _) | (with_reducible refine Below.drew ?_) | ((with_reducible refine Below.alloc ?_ ?_ _); rotate_left; focus (first | (simp; done) | (simp; omega) | omega)) | ((with_reducible refine Below.setCell ?_ ?_ _); rotate_left; focus (first | (simp; done) | (simp; omega) | omega))))) (by first | (simp; done) | (simp; omega) | omega) hb1
    have hz1a : w.heap.size < w1.heap.size := (by have := hb1.size; first | omega | (simp at this; omega))
    clear hF1
    try simp only [Act.put, List.setIfInBounds_toArray, List.set_cons_succ, List.set_cons_zero]
    go_wp2_with fail
    go_ret
    exact ⟨ret_int (by rw [HE.out]), by (repeat (first | (with_reducible assumption) | (with_reducible exact Below.refl _ _) | (with_reducible refine below_drewN' ?_ _) | (with_reducible refine Below.drew ?_) | ((with_reducible refine Below.alloc ?_ ?_ _); rotate_left; focus (first | (simp; done) | (simp; omega) | omega)) | ((with_reducible refine Below.setCell ?_ ?_ _); rotate_left; focus (first | (simp; done) | (simp; omega) | omega))))⟩
  · have HE : Hid (elN 2 2 5 C N = N * C) := Lib.hid (by unfold elN; rw [if_pos rfl, Int.toNat_natCast, Int.toNat_natCast])
    have hm : (N : Int) * C = ((N * C : Nat) : Int) := by simp
    have hb := Nat.mul_le_mul h4 h2
    generalize N * C = M at *
    go_enter Try.func69, Try.ntmps69
    go_wp2_with fail
    go_ret
    exact ⟨ret_int (by rw [HE.out]), by (repeat (first | (with_reducible assumption) | (with_reducible exact Below.refl _ _) | (with_reducible refine below_drewN' ?_ _) | (with_reducible refine Below.drew ?_) | ((with_reducible refine Below.alloc ?_ ?_ _); rotate_left; focus (first | (simp; done) | (simp; omega) | omega)) | ((with_reducible refine Below.setCell ?_ ?_ _); rotate_left; focus (first | (simp; done) | (simp; omega) | omega))))⟩

set_option maxHeartbeats 2000000 in
theorem l13Elements_any (s : ByteArray) (kind p k g col : Int) (A1 A2 : Option Addr) (n1 c1 n2 c2 : Nat) (_sz _lv : List Int) (size : Int) (w : World) (h : FamSz kind p k g col size) :
    Calls Try.prog 86 #[.agg #[.string s, .int .i64 kind, .int .i64 p, .int .i64 k, .int .i64 g, .slice A1 n1 c1, .int .i64 col, .slice A2 n2 c2], .int .i64 size] w fun e w' => e = .returned (.int .i64 (elN kind p k col size : Nat)) ∧ Below w.heap.size w w' := by
  rcases h with ⟨rfl, rfl, h, N, rfl, h1, h2, h3⟩ | ⟨rfl, rfl, rfl, rfl, C, N, rfl, rfl, h1, h2, h3, h4⟩
  · have HW := Lib.hid (fun w => l11Width_any 2 k g w h)
    obtain ⟨K, rfl, hk3, hk8, hs, hw⟩ := field2 h
    have HD := Lib.hid (fun w => l14Count_any N w ⟨h1, h2, h3⟩)
    have hl := data_len ⟨h1, h2, h3⟩
    have HE : Hid (elN 1 2 K col N = (dataL N).length / K) := Lib.hid (by unfold elN; rw [if_neg (by decide), hw, Int.toNat_natCast, Int.toNat_natCast])
    rw [hw] at HW
    clear hs hw h h3
    generalize (dataL N).length = L at *
    obtain ⟨q1, q2, q3⟩ := quo_facts L K (by omega)
    generalize L / K = Q at *
    have hK0 : ¬ K = 0 := by omega
    go_enter Try.func86, Try.ntmps86
    go_wp2_with fail
    refine wp_region_qat [] 7 [] (by kernel_rfl) (by kernel_rfl) ?_
    intro hbc
    simp only [List.take_succ_cons, List.take_zero, List.drop_succ_cons, List.drop_zero]
    repeat (first
      | refine wpQ_pass rfl ?_
      | (refine wpQ_step rfl (fun K hK => ?_)
         go_simp
         first
           | (refine hK _ ?_; clear hK K)
           | (apply Exists.intro
              refine ⟨fun z => ?_, ?_⟩
              focus (first | (go_at_call 108; exact HD.out _) | (go_at_call 87; exact HW.out _))
              refine hK _ ?_
              clear hK K)))
    refine wpQ_nil ⟨?_, ?_⟩
    · exact rfl
    intro  w1 hb1 hF1
    clear hbc
    obtain ⟨hc1, hf1⟩ := bcell hb1
    have hB1 : Below w.heap.size w w1 := below_then (by first | (go_grown; done) | (repeat (first | (with_reducible assumption) | (with_reducible exact Below.refl _ _) | (with_reducible refine below_drewN' ?_ _) | (with_reducible refine Below.drew ?_) | ((with_reducible refine Below.alloc ?_ ?_ _); rotate_left; focus (first | (simp; done) | (simp; omega) | omega)) | ((with_reducible refine Below.setCell ?_ ?_ _); rotate_left; focus (first | (simp; done) | (simp; omega) | omega))))) (by first | (simp; done) | (simp; omega) | omega) hb1
    have hz1a : w.heap.size < w1.heap.size := (by have := hb1.size; first | omega | (simp at this; omega))
    clear hF1
    try simp only [Act.put, List.setIfInBounds_toArray, List.set_cons_succ, List.set_cons_zero]
    go_wp2_with fail
    go_ret
    exact ⟨ret_int (by rw [HE.out]), by (repeat (first | (with_reducible assumption) | (with_reducible exact Below.refl _ _) | (with_reducible refine below_drewN' ?_ _) | (with_reducible refine Below.drew ?_) | ((with_reducible refine Below.alloc ?_ ?_ _); rotate_left; focus (first | (simp; done) | (simp; omega) | omega)) | ((with_reducible refine Below.setCell ?_ ?_ _); rotate_left; focus (first | (simp; done) | (simp; omega) | omega))))⟩
  · have HE : Hid (elN 2 2 5 C N = N * C) := Lib.hid (by unfold elN; rw [if_pos rfl, Int.toNat_natCast, Int.toNat_natCast])
    have hm : (N : Int) * C = ((N * C : Nat) : Int) := by simp
    have hb := Nat.mul_le_mul h4 h2
    generalize N * C = M at *
    go_enter Try.func86, Try.ntmps86
    go_wp2_with fail
    go_ret
    exact ⟨ret_int (by rw [HE.out]), by (repeat (first | (with_reducible assumption) | (with_reducible exact Below.refl _ _) | (with_reducible refine below_drewN' ?_ _) | (with_reducible refine Below.drew ?_) | ((with_reducible refine Below.alloc ?_ ?_ _); rotate_left; focus (first | (simp; done) | (simp; omega) | omega)) | ((with_reducible refine Below.setCell ?_ ?_ _); rotate_left; focus (first | (simp; done) | (simp; omega) | omega))))⟩

end Go.Proofs.Ytbgcbjfimjfbpaa
