/-
  Contracts of chapter 13: the layout of a symbol, the room of its data, its errors.
-/
import Derived.Test.YtbgcbjfimjfbpaaC13G
import Derived.Test.YtbgcbjfimjfbpaaC15C
import Derived.Test.YtbgcbjfimjfbpaaC07
namespace Go.Proofs.Ytbgcbjfimjfbpaa
set_option linter.unusedSimpArgs false
open Go.RowKit

/-- How many elements a symbol of a valid family has. -/
def elN (kind p k col size : Int) : Nat := if kind = 2 then size.toNat * col.toNat else (dataL size.toNat).length / (widV (fsize p k)).toNat
theorem field2 {k g : Int} (h : fieldB 2 k g = true) : ∃ K : Nat, k = K ∧ 3 ≤ K ∧ K ≤ 8 ∧ fsize 2 k = ((2 ^ K : Nat) : Int) ∧ widV (fsize 2 k) = K := by
  have hk : k ≠ 1 := by
    rintro rfl
    have h1 : inR 2 3 1021 = false := by decide
    rw [fieldB_one, fieldP_no (.inl h1)] at h; cases h
  rw [fieldB_two hk] at h
  simp only [Bool.and_eq_true, fieldT] at h
  have b := inR_true h.2.1.1
  obtain ⟨K, rfl⟩ := Int.eq_ofNat_of_zero_le (show 0 ≤ k by omega)
  have hs : fsize 2 K = ((2 ^ K : Nat) : Int) := by unfold fsize; rw [if_neg hk, Int.toNat_natCast]; simp
  refine ⟨K, rfl, by omega, by omega, hs, ?_⟩
  rw [hs]; unfold widV; rw [Int.toNat_natCast, log2_of (Nat.le_refl _) (by rw [Nat.pow_succ]; have := Nat.two_pow_pos K; omega)]
/-- A valid family and one of its sizes. -/
def FamSz (kind p k g col size : Int) : Prop :=
  (kind = 1 ∧ p = 2 ∧ fieldB 2 k g = true ∧ ∃ N : Nat, size = N ∧ 17 ≤ N ∧ N ≤ 41 ∧ N % 4 = 1) ∨ (kind = 2 ∧ p = 2 ∧ k = 5 ∧ g = 37 ∧ ∃ C N : Nat, col = C ∧ size = N ∧ 1 ≤ C ∧ C ≤ 8 ∧ 3 ≤ N ∧ N ≤ 24)
theorem fam_size {s : ByteArray} {kind p k g col size : Int} {n1 n2 : Nat} {sz lv : List Int} (h : famB s kind p k g col n1 sz n2 lv = true) (hs : hasB size sz = true) : FamSz kind p k g col size := by
  obtain ⟨i, hi, rfl⟩ := hasB_mem hs
  unfold famB at h
  simp only [Bool.and_eq_true] at h
  have h5 := h.2.2.2.2
  by_cases h1 : kind = 1
  · rw [if_pos h1] at h5
    simp only [Bool.and_eq_true, beq_iff_eq] at h5
    obtain ⟨rfl, h6, h7, h8, h9⟩ := h5
    left
    refine ⟨h1, rfl, h6, ?_⟩
    have := sizes_of h8 hi
    rw [List.all_eq_true.1 h9 _ (nth_mem hi)] at this
    exact sizeB_true this
  · rw [if_neg h1] at h5
    simp only [Bool.and_eq_true, beq_iff_eq, fld32] at h5
    obtain ⟨h2, ⟨rfl, rfl, rfl⟩, h7, h8⟩ := h5
    right
    have b := inR_true h7
    have c := risB_in h8 hi
    exact ⟨h2, rfl, rfl, rfl, col.toNat, (nth sz i).toNat, by omega, by omega, by omega, by omega, by omega, by omega⟩
theorem FamSz.field {kind p k g col size : Int} (h : FamSz kind p k g col size) : fieldB p k g = true ∧ ∃ S : Nat, fsize p k = S ∧ 8 ≤ S ∧ S ≤ 256 := by
  rcases h with ⟨-, rfl, h, -⟩ | ⟨-, rfl, rfl, rfl, -⟩
  · obtain ⟨K, rfl, h3, h8, hs, -⟩ := field2 h
    exact ⟨h, 2 ^ K, hs, (pow2_size h3 h8).1, (pow2_size h3 h8).2⟩
  · exact ⟨f32_yes, 32, by decide, by omega, by omega⟩
def lenOk : Bool := sizes.all fun N => decide (40 ≤ (dataF N).length)
theorem lenOk_true : lenOk = true := by decide +kernel
theorem data_len {N : Nat} (h : 17 ≤ N ∧ N ≤ 41 ∧ N % 4 = 1) : 40 ≤ (dataL N).length ∧ (dataL N).length ≤ 1680 := by
  constructor
  · rw [data_F h]
    have h1 := List.all_eq_true.1 lenOk_true N (size_mem h)
    simpa using h1
  · have := data_count h
    have h4 := cnt_take_le negB (fixL N) (N * N)
    have h5 : (fixL N).take (N * N) = fixL N := List.take_of_length_le (by rw [fixL_len]; exact Nat.le_refl _)
    have h6 : N * N ≤ 41 * 41 := Nat.mul_le_mul h.2.1 h.2.1
    rw [h5] at h4
    omega
theorem elN_bd {kind p k g col size : Int} (h : FamSz kind p k g col size) : 1 ≤ elN kind p k col size ∧ elN kind p k col size ≤ 1680 := by
  rcases h with ⟨rfl, rfl, h, N, rfl, h1, h2, h3⟩ | ⟨rfl, rfl, rfl, rfl, C, N, rfl, rfl, h1, h2, h3, h4⟩
  · obtain ⟨K, rfl, h3', h8, hs, hw⟩ := field2 h
    unfold elN
    rw [if_neg (by decide), hw, Int.toNat_natCast, Int.toNat_natCast]
    have hl := data_len ⟨h1, h2, h3⟩
    generalize (dataL N).length = L at hl
    constructor
    · exact (Nat.one_le_div_iff (by omega)).2 (by omega)
    · exact Nat.le_trans (Nat.div_le_self _ _) hl.2
  · unfold elN
    rw [if_pos rfl, Int.toNat_natCast, Int.toNat_natCast]
    have a := Nat.mul_le_mul h4 h2
    have b := Nat.mul_le_mul h3 h1
    omega
theorem quo_facts (L K : Nat) (hL : L ≤ 1000000) : (L : Int) / K = ((L / K : Nat) : Int) ∧ (L : Int).tdiv K = ((L / K : Nat) : Int) ∧ IntKind.i64.wrap ((L / K : Nat) : Int) = ((L / K : Nat) : Int) := by
  have h1 : L / K ≤ L := Nat.div_le_self _ _
  refine ⟨by simp, by rw [Int.tdiv_eq_ediv_of_nonneg (by omega)]; simp, wr64 (by generalize L / K = Q at h1; omega)⟩
set_option maxHeartbeats 2000000 in
theorem elements_any (s : ByteArray) (kind p k g col : Int) (A1 A2 : Option Addr) (n1 c1 n2 c2 : Nat) (_sz _lv : List Int) (size : Int) (w : World) (h : FamSz kind p k g col size) :
    Calls Try.prog 69 #[.agg #[.string s, .int .i64 kind, .int .i64 p, .int .i64 k, .int .i64 g, .slice A1 n1 c1, .int .i64 col, .slice A2 n2 c2], .int .i64 size] w fun e w' => e = .returned (.int .i64 (elN kind p k col size : Nat)) ∧ Below w.heap.size w w' := by
  rcases h with ⟨rfl, rfl, h, N, rfl, h1, h2, h3⟩ | ⟨rfl, rfl, rfl, rfl, C, N, rfl, rfl, h1, h2, h3, h4⟩
  · have HW := Lib.hid (fun w => FieldWidth_any 2 k g w h)
    obtain ⟨K, rfl, hk3, hk8, hs, hw⟩ := field2 h
    have HD := Lib.hid (fun w => DataCount_any N w)
    have hdc : dcV (N : Int) = (((dataL N).length : Nat) : Int) := by unfold dcV; rw [show sizeB (N : Int) = true by unfold sizeB; rw [inR_mk (by omega) (by omega), Int.tmod_eq_emod_of_nonneg (by omega)]; simp; omega]; simp
    rw [hdc] at HD
    clear hdc
    have hl := data_len ⟨h1, h2, h3⟩
    have HE : Hid (elN 1 2 K col N = (dataL N).length / K) := Lib.hid (by unfold elN; rw [if_neg (by decide), hw, Int.toNat_natCast, Int.toNat_natCast])
    rw [hw] at HW
    clear hs hw h h3
    generalize (dataL N).length = L at *
    obtain ⟨q1, q2, q3⟩ := quo_facts L K (by omega)
    generalize L / K = Q at *
    have hK0 : ¬ K = 0 := by omega
    go_enter Try.func69, Try.ntmps69
    go_wp2_with fail
    refine wp_region_qat [] 7 [] (by kernel_rfl) (by kernel_rfl) ?_
    intro hbc
    simp only [List.take_succ_cons, List.take_zero, List.drop_succ_cons, List.drop_zero]
    repeat (first
      | refine wpQ_pass rfl ?_
      | (refine wpQ_step rfl (fun K hK => ?_)
         go_simp
         first
           | (refine hK _ ?_; clear hK K)
           | (apply Exists.intro
              refine ⟨fun z => ?_, ?_⟩
              focus (first | (go_at_call 99; exact HD.out _) | (go_at_call 24; exact HW.out _))
              refine hK _ ?_
              clear hK K)))
    refine wpQ_nil ⟨?_, ?_⟩
    · exact rfl
    intro  w1 hb1 hF1
    clear hbc
    obtain ⟨hc1, hf1⟩ := bcell hb1
    have hB1 : Below w.heap.size w w1 := below_then (by first | (go_grown; done) | (repeat (first | (with_reducible assumption) | (with_reducible exact Below.refl _ _) | (with_reducible refine below_drewN' ?_ _) | (with_reducible refine Below.drew ?_) | ((with_reducible refine Below.alloc ?_ ?_ _); rotate_left; focus (first | (simp; done) | (simp; omega) | omega)) | ((with_reducible refine Below.setCell ?_ ?_ _); rotate_left; focus (first | (simp; done) | (simp; omega) | omega))))) (by first | (simp; done) | (simp; omega) | omega) hb1
    have hz1a : w.heap.size < w1.heap.size := (by have := hb1.size; first | omega | (simp at this; omega))
    clear hF1
    try simp only [Act.put, List.setIfInBounds_toArray, List.set_cons_succ, List.set_cons_zero]
    go_wp2_with fail
    go_ret
    exact ⟨ret_int (by rw [HE.out]), by (repeat (first | (with_reducible assumption) | (with_reducible exact Below.refl _ _) | (with_reducible refine below_drewN' ?_ _) | (with_reducible refine Below.drew ?_) | ((with_reducible refine Below.alloc ?_ ?_ _); rotate_left; focus (first | (simp; done) | (simp; omega) | omega)) | ((with_reducible refine Below.setCell ?_ ?_ _); rotate_left; focus (first | (simp; done) | (simp; omega) | omega))))⟩
  · have HE : Hid (elN 2 2 5 C N = N * C) := Lib.hid (by unfold elN; rw [if_pos rfl, Int.toNat_natCast, Int.toNat_natCast])
    have hm : (N : Int) * C = ((N * C : Nat) : Int) := by simp
    have hb := Nat.mul_le_mul h4 h2
    generalize N * C = M at *
    go_enter Try.func69, Try.ntmps69
    go_wp2_with fail
    go_ret
    exact ⟨ret_int (by rw [HE.out]), by (repeat (first | (with_reducible assumption) | (with_reducible exact Below.refl _ _) | (with_reducible refine below_drewN' ?_ _) | (with_reducible refine Below.drew ?_) | ((with_reducible refine Below.alloc ?_ ?_ _); rotate_left; focus (first | (simp; done) | (simp; omega) | omega)) | ((with_reducible refine Below.setCell ?_ ?_ _); rotate_left; focus (first | (simp; done) | (simp; omega) | omega))))⟩

set_option maxHeartbeats 2000000 in
theorem l13Elements_any (s : ByteArray) (kind p k g col : Int) (A1 A2 : Option Addr) (n1 c1 n2 c2 : Nat) (_sz _lv : List Int) (size : Int) (w : World) (h : FamSz kind p k g col size) :
    Calls Try.prog 86 #[.agg #[.string s, .int .i64 kind, .int .i64 p, .int .i64 k, .int .i64 g, .slice A1 n1 c1, .int .i64 col, .slice A2 n2 c2], .int .i64 size] w fun e w' => e = .returned (.int .i64 (elN kind p k col size : Nat)) ∧ Below w.heap.size w w' := by
  rcases h with ⟨rfl, rfl, h, N, rfl, h1, h2, h3⟩ | ⟨rfl, rfl, rfl, rfl, C, N, rfl, rfl, h1, h2, h3, h4⟩
  · have HW := Lib.hid (fun w => l11Width_any 2 k g w h)
    obtain ⟨K, rfl, hk3, hk8, hs, hw⟩ := field2 h
    have HD := Lib.hid (fun w => l14Count_any N w ⟨h1, h2, h3⟩)
    have hl := data_len ⟨h1, h2, h3⟩
    have HE : Hid (elN 1 2 K col N = (dataL N).length / K) := Lib.hid (by unfold elN; rw [if_neg (by decide), hw, Int.toNat_natCast, Int.toNat_natCast])
    rw [hw] at HW
    clear hs hw h h3
    generalize (dataL N).length = L at *
    obtain ⟨q1, q2, q3⟩ := quo_facts L K (by omega)
    generalize L / K = Q at *
    have hK0 : ¬ K = 0 := by omega
    go_enter Try.func86, Try.ntmps86
    go_wp2_with fail
    refine wp_region_qat [] 7 [] (by kernel_rfl) (by kernel_rfl) ?_
    intro hbc
    simp only [List.take_succ_cons, List.take_zero, List.drop_succ_cons, List.drop_zero]
    repeat (first
      | refine wpQ_pass rfl ?_
      | (refine wpQ_step rfl (fun K hK => ?_)
         go_simp
         first
           | (refine hK _ ?_; clear hK K)
           | (apply Exists.intro
              refine ⟨fun z => ?_, ?_⟩
              focus (first | (go_at_call 108; exact HD.out _) | (go_at_call 87; exact HW.out _))
              refine hK _ ?_
              clear hK K)))
    refine wpQ_nil ⟨?_, ?_⟩
    · exact rfl
    intro  w1 hb1 hF1
    clear hbc
    obtain ⟨hc1, hf1⟩ := bcell hb1
    have hB1 : Below w.heap.size w w1 := below_then (by first | (go_grown; done) | (repeat (first | (with_reducible assumption) | (with_reducible exact Below.refl _ _) | (with_reducible refine below_drewN' ?_ _) | (with_reducible refine Below.drew ?_) | ((with_reducible refine Below.alloc ?_ ?_ _); rotate_left; focus (first | (simp; done) | (simp; omega) | omega)) | ((with_reducible refine Below.setCell ?_ ?_ _); rotate_left; focus (first | (simp; done) | (simp; omega) | omega))))) (by first | (simp; done) | (simp; omega) | omega) hb1
    have hz1a : w.heap.size < w1.heap.size := (by have := hb1.size; first | omega | (simp at this; omega))
    clear hF1
    try simp only [Act.put, List.setIfInBounds_toArray, List.set_cons_succ, List.set_cons_zero]
    go_wp2_with fail
    go_ret
    exact ⟨ret_int (by rw [HE.out]), by (repeat (first | (with_reducible assumption) | (with_reducible exact Below.refl _ _) | (with_reducible refine below_drewN' ?_ _) | (with_reducible refine Below.drew ?_) | ((with_reducible refine Below.alloc ?_ ?_ _); rotate_left; focus (first | (simp; done) | (simp; omega) | omega)) | ((with_reducible refine Below.setCell ?_ ?_ _); rotate_left; focus (first | (simp; done) | (simp; omega) | omega))))⟩
  · have HE : Hid (elN 2 2 5 C N = N * C) := Lib.hid (by unfold elN; rw [if_pos rfl, Int.toNat_natCast, Int.toNat_natCast])
    have hm : (N : Int) * C = ((N * C : Nat) : Int) := by simp
    have hb := Nat.mul_le_mul h4 h2
    generalize N * C = M at *
    go_enter Try.func86, Try.ntmps86
    go_wp2_with fail
    go_ret
    exact ⟨ret_int (by rw [HE.out]), by (repeat (first | (with_reducible assumption) | (with_reducible exact Below.refl _ _) | (with_reducible refine below_drewN' ?_ _) | (with_reducible refine Below.drew ?_) | ((with_reducible refine Below.alloc ?_ ?_ _); rotate_left; focus (first | (simp; done) | (simp; omega) | omega)) | ((with_reducible refine Below.setCell ?_ ?_ _); rotate_left; focus (first | (simp; done) | (simp; omega) | omega))))⟩

end Go.Proofs.Ytbgcbjfimjfbpaa
namespace Go.Proofs.Ytbgcbjfimjfbpaa
set_option linter.unusedSimpArgs false
open Go.RowKit

/-- How many blocks a symbol of E elements has, and how many checks each, over a field of S elements at level l. -/
def cN (E S : Nat) : Nat := (E + (S - 1) - 1) / (S - 1)
def kN (E S l : Nat) : Nat := max 2 (min 64 (E * l / 100 / cN E S))
def layCnt (kind p k col size : Int) : Nat := cN (elN kind p k col size) (fsize p k).toNat
def layChk (kind p k col size l : Int) : Nat := kN (elN kind p k col size) (fsize p k).toNat l.toNat
def layDat (kind p k col size l : Int) : Int := (elN kind p k col size : Nat) - ((layCnt kind p k col size * layChk kind p k col size l : Nat) : Int)
theorem cN_bd {E S : Nat} (h1 : 1 ≤ E) (h2 : E ≤ 1680) (h3 : 8 ≤ S) : 1 ≤ cN E S ∧ cN E S ≤ 1680 := by
  unfold cN
  refine ⟨(Nat.one_le_div_iff (by omega)).2 (by omega), ?_⟩
  have : (E + (S - 1) - 1) / (S - 1) * (S - 1) ≤ E + (S - 1) - 1 := Nat.div_mul_le_self _ _
  generalize (E + (S - 1) - 1) / (S - 1) = q at *
  rcases Nat.lt_or_ge 1680 q with hq | hq
  · have h4 := Nat.mul_le_mul (show 1681 ≤ q from hq) (Nat.le_refl (S - 1))
    omega
  · exact hq
theorem kN_bd (E S l : Nat) : 2 ≤ kN E S l ∧ kN E S l ≤ 64 := by unfold kN; omega
set_option maxHeartbeats 4000000 in
theorem layout_any (s : ByteArray) (kind p k g col : Int) (A1 A2 : Option Addr) (n1 c1 n2 c2 : Nat) (sz lv : List Int) (size : Int) (j : Nat) (w : World) (B : Nat) (h : FamSz kind p k g col size) (hr : RI w B A2 n2 lv) (_hB : B ≤ w.heap.size) (hj : j < n2) (hl1 : 1 ≤ nth lv j) (hl2 : nth lv j ≤ 80) :
    Calls Try.prog 53 #[.agg #[.string s, .int .i64 kind, .int .i64 p, .int .i64 k, .int .i64 g, .slice A1 n1 c1, .int .i64 col, .slice A2 n2 c2], .int .i64 size, .int .i64 j] w fun e w' => e = .returned (.agg #[.int .i64 p, .int .i64 k, .int .i64 g, .int .i64 (layDat kind p k col size (nth lv j)), .int .i64 (layChk kind p k col size (nth lv j) : Nat), .int .i64 (layCnt kind p k col size : Nat)]) ∧ Below w.heap.size w w' := by
  have HE := Lib.hid (fun w => elements_any s kind p k g col A1 A2 n1 c1 n2 c2 sz lv size w h)
  obtain ⟨hf, S, hS, hS8, hS256⟩ := h.field
  have HS := Lib.hid (fun w => FieldSize_any p k g w hf)
  obtain ⟨hE1, hE2⟩ := elN_bd h
  unfold layDat layChk layCnt
  rw [hS] at HS
  rw [hS, Int.toNat_natCast]
  generalize elN kind p k col size = E at *
  obtain ⟨b, o, rfl, -, hc⟩ := hr.cells (by omega)
  have hck := hc j hj
  obtain ⟨l, hl⟩ := Int.eq_ofNat_of_zero_le (show 0 ≤ nth lv j by omega)
  have HRL := Lib.hid (fun (w' : World) (hb : Below w.heap.size w w') => show w'.cell? ⟨b, o + j, none⟩ = some (.int .i64 (l : Int)) by rw [← hl, ← hck]; exact hb.cell (by have := World.block_lt_of_cell? w ⟨b, o + j, none⟩ hck; exact this))
  rw [hl] at hl1 hl2
  rw [hl, Int.toNat_natCast]
  obtain ⟨hc1, hc2⟩ := cN_bd hE1 hE2 hS8
  obtain ⟨hk1, hk2⟩ := kN_bd E S l
  have hS1 : (S : Int) - 1 = ((S - 1 : Nat) : Int) := by omega
  have hCe : ((E : Int) + ((S - 1 : Nat) : Int) - 1) / ((S - 1 : Nat) : Int) = (cN E S : Nat) := by
    rw [show (E : Int) + ((S - 1 : Nat) : Int) - 1 = ((E + (S - 1) - 1 : Nat) : Int) by omega, ← Int.natCast_ediv]; rfl
  have hp1 : (E : Int) * l = ((E * l : Nat) : Int) := by simp
  have hpb := Nat.mul_le_mul hE2 (show l ≤ 80 by omega)
  have hK : kN E S l = max 2 (min 64 (E * l / 100 / cN E S)) := rfl
  have hq2 : ((E * l : Nat) : Int) / 100 = ((E * l / 100 : Nat) : Int) := by simp
  have hb2 : E * l / 100 ≤ E * l := Nat.div_le_self _ _
  have hq3 : ((E * l / 100 : Nat) : Int) / (cN E S : Nat) = ((E * l / 100 / cN E S : Nat) : Int) := by simp
  have hb3 : E * l / 100 / cN E S ≤ E * l / 100 := Nat.div_le_self _ _
  have hp4 : ((cN E S : Nat) : Int) * (kN E S l : Nat) = ((cN E S * kN E S l : Nat) : Int) := by simp
  have hpb4 := Nat.mul_le_mul hc2 hk2
  have hpb4' : cN E S * kN E S l ≤ 107520 := by omega
  have hpb' : E * l ≤ 134400 := by omega
  have hm1 : S - 1 ≤ 255 := by omega
  have hm0 : 1 ≤ S - 1 := by omega
  clear hl hc hck hf hS h hr hS8 hS256
  generalize cN E S * kN E S l = P4 at *
  generalize kN E S l = K at *
  generalize E * l / 100 / cN E S = P3 at *
  generalize E * l / 100 = P2 at *
  generalize E * l = P1 at *
  generalize cN E S = C at *
  have hm2 : ((S - 1 : Nat) : Int) ≤ 255 := by omega
  generalize S - 1 = M at *
  have hM0 : ¬ M = 0 := by omega
  have hC0 : ¬ C = 0 := by omega
  have main : ∀ (hx : (P3 ≤ 2 ∧ K = 2) ∨ (2 < P3 ∧ P3 < 64 ∧ K = P3) ∨ (64 ≤ P3 ∧ K = 64)), Calls Try.prog 53 #[.agg #[.string s, .int .i64 kind, .int .i64 p, .int .i64 k, .int .i64 g, .slice A1 n1 c1, .int .i64 col, .slice (some ⟨b, o, none⟩) n2 c2], .int .i64 size, .int .i64 j] w fun e w' => e = .returned (.agg #[.int .i64 p, .int .i64 k, .int .i64 g, .int .i64 ((E : Int) - (P4 : Int)), .int .i64 (K : Int), .int .i64 (C : Int)]) ∧ Below w.heap.size w w' := by
    intro hx
    clear hK
    rcases hx with ⟨hx, rfl⟩ | ⟨hx, hy, rfl⟩ | ⟨hx, rfl⟩
    · go_enter Try.func53, Try.ntmps53
      go_wp2_with (go_at_call 69; with_reducible refine (HE.out _).mono ?_; rintro e1 w1 ⟨rfl, hb1⟩; obtain ⟨hc1, hf1⟩ := bcell hb1; have hB1 : Below w.heap.size w w1 := (below_then (by first | (go_grown; done) | (repeat (first | (with_reducible assumption) | (with_reducible exact Below.refl _ _) | (with_reducible refine below_drewN' ?_ _) | (with_reducible refine Below.drew ?_) | ((with_reducible refine Below.alloc ?_ ?_ _); rotate_left; focus (first | (simp; done) | (simp; omega) | omega)) | ((with_reducible refine Below.setCell ?_ ?_ _); rotate_left; focus (first | (simp; done) | (simp; omega) | omega))))) (by first | omega | (simp; done) | (simp; omega)) hb1); have hz1a : w.heap.size < w1.heap.size := (by have := hb1.size; first | omega | (simp at this; omega)); have hz1b : w.heap.size + 1 < w1.heap.size := (by have := hb1.size; first | omega | (simp at this; omega)))
      have hh1 := blk_below (blk_alloc (heap_alloc_new w (.cells #[.string s, .int .i64 kind, .int .i64 p, .int .i64 k, .int .i64 g, .slice A1 n1 c1, .int .i64 col, .slice (some ⟨b, o, none⟩) n2 c2] 34)) (by simp)) hb1 (by simp; omega)
      have hr1 : w1.heap[w.heap.size + 1]? = some (.cells #[.int .i64 0, .int .i64 0, .int .i64 0, .int .i64 0, .int .i64 0, .int .i64 0] 30 (0, 0)) := by
        refine blk_below ?_ hb1 (by first | (simp; done) | (simp; omega))
        (repeat (first | (with_reducible exact heap_alloc_new _ _) | (rw [heap_drew1]) | (rw [heap_drewN1]) | (rw [Below.heap_setCell _ _ _ _ (by first | omega | (simp; done) | (simp; omega))]) | (rw [Below.heap_alloc _ _ _ (by first | omega | (simp; done) | (simp; omega))]) | (exact heap_alloc_at (by first | omega | (simp; done) | (simp; omega)))))
      (go_at_call 91; with_reducible refine (HS.out _).mono ?_; rintro e2 w2 ⟨rfl, hb2⟩; obtain ⟨hc2, hf2⟩ := bcell hb2; have hB2 : Below w.heap.size w w2 := (below_then (by first | (go_grown; done) | (repeat (first | (with_reducible assumption) | (with_reducible exact Below.refl _ _) | (with_reducible refine below_drewN' ?_ _) | (with_reducible refine Below.drew ?_) | ((with_reducible refine Below.alloc ?_ ?_ _); rotate_left; focus (first | (simp; done) | (simp; omega) | omega)) | ((with_reducible refine Below.setCell ?_ ?_ _); rotate_left; focus (first | (simp; done) | (simp; omega) | omega))))) (by first | omega | (simp; done) | (simp; omega)) hb2); have hz2a : w.heap.size < w2.heap.size := (by have := hb2.size; first | omega | (simp at this; omega)); have hz2b : w.heap.size + 1 < w2.heap.size := (by have := hb2.size; first | omega | (simp at this; omega)))
      have hh2 := blk_below hh1 hb2 hz1a
      have hr2 := blk_below hr1 hb2 hz1b
      have hck := HRL.out w2 hB2
      obtain ⟨y0, y1, y2, y3, y4, y5, y6, y7, -⟩ := blk8 hh2
      obtain ⟨z0, z1, z2, z3, z4, z5, zf⟩ := blk6 hr2
      have hp5 := hp4
      try simp only [Int.cast_ofNat_Int] at hp5
      clear hc1 hf1 hc2 hf2 hh1 hr1 hh2
      go_wp2_with fail
      obtain ⟨s0, s1, s2, s3, s4, s5, -⟩ := blk6 (res6 hr2 (.int .i64 p) (.int .i64 k) (.int .i64 g) (.int .i64 ((E : Int) - (P4 : Int))) (.int .i64 2) (.int .i64 (C : Int)))
      (try simp only [Exit.inBlock, Exit.then]); refine bodyPost_ret (by simp [results, Try.results53, go_sem, s0, s1, s2, s3, s4, s5]; try rfl) rfl ?_
      exact ⟨rfl, by (repeat (first | (with_reducible assumption) | (with_reducible exact Below.refl _ _) | (with_reducible refine below_drewN' ?_ _) | (with_reducible refine Below.drew ?_) | ((with_reducible refine Below.alloc ?_ ?_ _); rotate_left; focus (first | (simp; done) | (simp; omega) | omega)) | ((with_reducible refine Below.setCell ?_ ?_ _); rotate_left; focus (first | (simp; done) | (simp; omega) | omega))))⟩
    · go_enter Try.func53, Try.ntmps53
      go_wp2_with (go_at_call 69; with_reducible refine (HE.out _).mono ?_; rintro e1 w1 ⟨rfl, hb1⟩; obtain ⟨hc1, hf1⟩ := bcell hb1; have hB1 : Below w.heap.size w w1 := (below_then (by first | (go_grown; done) | (repeat (first | (with_reducible assumption) | (with_reducible exact Below.refl _ _) | (with_reducible refine below_drewN' ?_ _) | (with_reducible refine Below.drew ?_) | ((with_reducible refine Below.alloc ?_ ?_ _); rotate_left; focus (first | (simp; done) | (simp; omega) | omega)) | ((with_reducible refine Below.setCell ?_ ?_ _); rotate_left; focus (first | (simp; done) | (simp; omega) | omega))))) (by first | omega | (simp; done) | (simp; omega)) hb1); have hz1a : w.heap.size < w1.heap.size := (by have := hb1.size; first | omega | (simp at this; omega)); have hz1b : w.heap.size + 1 < w1.heap.size := (by have := hb1.size; first | omega | (simp at this; omega)))
      have hh1 := blk_below (blk_alloc (heap_alloc_new w (.cells #[.string s, .int .i64 kind, .int .i64 p, .int .i64 k, .int .i64 g, .slice A1 n1 c1, .int .i64 col, .slice (some ⟨b, o, none⟩) n2 c2] 34)) (by simp)) hb1 (by simp; omega)
      have hr1 : w1.heap[w.heap.size + 1]? = some (.cells #[.int .i64 0, .int .i64 0, .int .i64 0, .int .i64 0, .int .i64 0, .int .i64 0] 30 (0, 0)) := by
        refine blk_below ?_ hb1 (by first | (simp; done) | (simp; omega))
        (repeat (first | (with_reducible exact heap_alloc_new _ _) | (rw [heap_drew1]) | (rw [heap_drewN1]) | (rw [Below.heap_setCell _ _ _ _ (by first | omega | (simp; done) | (simp; omega))]) | (rw [Below.heap_alloc _ _ _ (by first | omega | (simp; done) | (simp; omega))]) | (exact heap_alloc_at (by first | omega | (simp; done) | (simp; omega)))))
      (go_at_call 91; with_reducible refine (HS.out _).mono ?_; rintro e2 w2 ⟨rfl, hb2⟩; obtain ⟨hc2, hf2⟩ := bcell hb2; have hB2 : Below w.heap.size w w2 := (below_then (by first | (go_grown; done) | (repeat (first | (with_reducible assumption) | (with_reducible exact Below.refl _ _) | (with_reducible refine below_drewN' ?_ _) | (with_reducible refine Below.drew ?_) | ((with_reducible refine Below.alloc ?_ ?_ _); rotate_left; focus (first | (simp; done) | (simp; omega) | omega)) | ((with_reducible refine Below.setCell ?_ ?_ _); rotate_left; focus (first | (simp; done) | (simp; omega) | omega))))) (by first | omega | (simp; done) | (simp; omega)) hb2); have hz2a : w.heap.size < w2.heap.size := (by have := hb2.size; first | omega | (simp at this; omega)); have hz2b : w.heap.size + 1 < w2.heap.size := (by have := hb2.size; first | omega | (simp at this; omega)))
      have hh2 := blk_below hh1 hb2 hz1a
      have hr2 := blk_below hr1 hb2 hz1b
      have hck := HRL.out w2 hB2
      obtain ⟨y0, y1, y2, y3, y4, y5, y6, y7, -⟩ := blk8 hh2
      obtain ⟨z0, z1, z2, z3, z4, z5, zf⟩ := blk6 hr2
      have hp5 := hp4
      try simp only [Int.cast_ofNat_Int] at hp5
      clear hc1 hf1 hc2 hf2 hh1 hr1 hh2
      go_wp2_with fail
      obtain ⟨s0, s1, s2, s3, s4, s5, -⟩ := blk6 (res6 hr2 (.int .i64 p) (.int .i64 k) (.int .i64 g) (.int .i64 ((E : Int) - (P4 : Int))) (.int .i64 (K : Int)) (.int .i64 (C : Int)))
      (try simp only [Exit.inBlock, Exit.then]); refine bodyPost_ret (by simp [results, Try.results53, go_sem, s0, s1, s2, s3, s4, s5]; try rfl) rfl ?_
      exact ⟨rfl, by (repeat (first | (with_reducible assumption) | (with_reducible exact Below.refl _ _) | (with_reducible refine below_drewN' ?_ _) | (with_reducible refine Below.drew ?_) | ((with_reducible refine Below.alloc ?_ ?_ _); rotate_left; focus (first | (simp; done) | (simp; omega) | omega)) | ((with_reducible refine Below.setCell ?_ ?_ _); rotate_left; focus (first | (simp; done) | (simp; omega) | omega))))⟩
    · go_enter Try.func53, Try.ntmps53
      go_wp2_with (go_at_call 69; with_reducible refine (HE.out _).mono ?_; rintro e1 w1 ⟨rfl, hb1⟩; obtain ⟨hc1, hf1⟩ := bcell hb1; have hB1 : Below w.heap.size w w1 := (below_then (by first | (go_grown; done) | (repeat (first | (with_reducible assumption) | (with_reducible exact Below.refl _ _) | (with_reducible refine below_drewN' ?_ _) | (with_reducible refine Below.drew ?_) | ((with_reducible refine Below.alloc ?_ ?_ _); rotate_left; focus (first | (simp; done) | (simp; omega) | omega)) | ((with_reducible refine Below.setCell ?_ ?_ _); rotate_left; focus (first | (simp; done) | (simp; omega) | omega))))) (by first | omega | (simp; done) | (simp; omega)) hb1); have hz1a : w.heap.size < w1.heap.size := (by have := hb1.size; first | omega | (simp at this; omega)); have hz1b : w.heap.size + 1 < w1.heap.size := (by have := hb1.size; first | omega | (simp at this; omega)))
      have hh1 := blk_below (blk_alloc (heap_alloc_new w (.cells #[.string s, .int .i64 kind, .int .i64 p, .int .i64 k, .int .i64 g, .slice A1 n1 c1, .int .i64 col, .slice (some ⟨b, o, none⟩) n2 c2] 34)) (by simp)) hb1 (by simp; omega)
      have hr1 : w1.heap[w.heap.size + 1]? = some (.cells #[.int .i64 0, .int .i64 0, .int .i64 0, .int .i64 0, .int .i64 0, .int .i64 0] 30 (0, 0)) := by
        refine blk_below ?_ hb1 (by first | (simp; done) | (simp; omega))
        (repeat (first | (with_reducible exact heap_alloc_new _ _) | (rw [heap_drew1]) | (rw [heap_drewN1]) | (rw [Below.heap_setCell _ _ _ _ (by first | omega | (simp; done) | (simp; omega))]) | (rw [Below.heap_alloc _ _ _ (by first | omega | (simp; done) | (simp; omega))]) | (exact heap_alloc_at (by first | omega | (simp; done) | (simp; omega)))))
      (go_at_call 91; with_reducible refine (HS.out _).mono ?_; rintro e2 w2 ⟨rfl, hb2⟩; obtain ⟨hc2, hf2⟩ := bcell hb2; have hB2 : Below w.heap.size w w2 := (below_then (by first | (go_grown; done) | (repeat (first | (with_reducible assumption) | (with_reducible exact Below.refl _ _) | (with_reducible refine below_drewN' ?_ _) | (with_reducible refine Below.drew ?_) | ((with_reducible refine Below.alloc ?_ ?_ _); rotate_left; focus (first | (simp; done) | (simp; omega) | omega)) | ((with_reducible refine Below.setCell ?_ ?_ _); rotate_left; focus (first | (simp; done) | (simp; omega) | omega))))) (by first | omega | (simp; done) | (simp; omega)) hb2); have hz2a : w.heap.size < w2.heap.size := (by have := hb2.size; first | omega | (simp at this; omega)); have hz2b : w.heap.size + 1 < w2.heap.size := (by have := hb2.size; first | omega | (simp at this; omega)))
      have hh2 := blk_below hh1 hb2 hz1a
      have hr2 := blk_below hr1 hb2 hz1b
      have hck := HRL.out w2 hB2
      obtain ⟨y0, y1, y2, y3, y4, y5, y6, y7, -⟩ := blk8 hh2
      obtain ⟨z0, z1, z2, z3, z4, z5, zf⟩ := blk6 hr2
      have hp5 := hp4
      try simp only [Int.cast_ofNat_Int] at hp5
      clear hc1 hf1 hc2 hf2 hh1 hr1 hh2
      go_wp2_with fail
      obtain ⟨s0, s1, s2, s3, s4, s5, -⟩ := blk6 (res6 hr2 (.int .i64 p) (.int .i64 k) (.int .i64 g) (.int .i64 ((E : Int) - (P4 : Int))) (.int .i64 64) (.int .i64 (C : Int)))
      (try simp only [Exit.inBlock, Exit.then]); refine bodyPost_ret (by simp [results, Try.results53, go_sem, s0, s1, s2, s3, s4, s5]; try rfl) rfl ?_
      exact ⟨rfl, by (repeat (first | (with_reducible assumption) | (with_reducible exact Below.refl _ _) | (with_reducible refine below_drewN' ?_ _) | (with_reducible refine Below.drew ?_) | ((with_reducible refine Below.alloc ?_ ?_ _); rotate_left; focus (first | (simp; done) | (simp; omega) | omega)) | ((with_reducible refine Below.setCell ?_ ?_ _); rotate_left; focus (first | (simp; done) | (simp; omega) | omega))))⟩
  exact main (by rw [hK]; omega)

set_option maxHeartbeats 4000000 in
theorem l13Layout_any (s : ByteArray) (kind p k g col : Int) (A1 A2 : Option Addr) (n1 c1 n2 c2 : Nat) (sz lv : List Int) (size : Int) (j : Nat) (w : World) (B : Nat) (h : FamSz kind p k g col size) (hr : RI w B A2 n2 lv) (_hB : B ≤ w.heap.size) (hj : j < n2) (hl1 : 1 ≤ nth lv j) (hl2 : nth lv j ≤ 80) :
    Calls Try.prog 48 #[.agg #[.string s, .int .i64 kind, .int .i64 p, .int .i64 k, .int .i64 g, .slice A1 n1 c1, .int .i64 col, .slice A2 n2 c2], .int .i64 size, .int .i64 j] w fun e w' => e = .returned (.agg #[.int .i64 p, .int .i64 k, .int .i64 g, .int .i64 (layDat kind p k col size (nth lv j)), .int .i64 (layChk kind p k col size (nth lv j) : Nat), .int .i64 (layCnt kind p k col size : Nat)]) ∧ Below w.heap.size w w' := by
  have HE := Lib.hid (fun w => l13Elements_any s kind p k g col A1 A2 n1 c1 n2 c2 sz lv size w h)
  obtain ⟨hf, S, hS, hS8, hS256⟩ := h.field
  have HS := Lib.hid (fun w => l02Size_any p k g w hf)
  obtain ⟨hE1, hE2⟩ := elN_bd h
  unfold layDat layChk layCnt
  rw [hS] at HS
  rw [hS, Int.toNat_natCast]
  generalize elN kind p k col size = E at *
  obtain ⟨b, o, rfl, -, hc⟩ := hr.cells (by omega)
  have hck := hc j hj
  obtain ⟨l, hl⟩ := Int.eq_ofNat_of_zero_le (show 0 ≤ nth lv j by omega)
  have HRL := Lib.hid (fun (w' : World) (hb : Below w.heap.size w w') => show w'.cell? ⟨b, o + j, none⟩ = some (.int .i64 (l : Int)) by rw [← hl, ← hck]; exact hb.cell (by have := World.block_lt_of_cell? w ⟨b, o + j, none⟩ hck; exact this))
  rw [hl] at hl1 hl2
  rw [hl, Int.toNat_natCast]
  obtain ⟨hc1, hc2⟩ := cN_bd hE1 hE2 hS8
  obtain ⟨hk1, hk2⟩ := kN_bd E S l
  have hS1 : (S : Int) - 1 = ((S - 1 : Nat) : Int) := by omega
  have hCe : ((E : Int) + ((S - 1 : Nat) : Int) - 1) / ((S - 1 : Nat) : Int) = (cN E S : Nat) := by
    rw [show (E : Int) + ((S - 1 : Nat) : Int) - 1 = ((E + (S - 1) - 1 : Nat) : Int) by omega, ← Int.natCast_ediv]; rfl
  have hp1 : (E : Int) * l = ((E * l : Nat) : Int) := by simp
  have hpb := Nat.mul_le_mul hE2 (show l ≤ 80 by omega)
  have hK : kN E S l = max 2 (min 64 (E * l / 100 / cN E S)) := rfl
  have hq2 : ((E * l : Nat) : Int) / 100 = ((E * l / 100 : Nat) : Int) := by simp
  have hb2 : E * l / 100 ≤ E * l := Nat.div_le_self _ _
  have hq3 : ((E * l / 100 : Nat) : Int) / (cN E S : Nat) = ((E * l / 100 / cN E S : Nat) : Int) := by simp
  have hb3 : E * l / 100 / cN E S ≤ E * l / 100 := Nat.div_le_self _ _
  have hp4 : ((cN E S : Nat) : Int) * (kN E S l : Nat) = ((cN E S * kN E S l : Nat) : Int) := by simp
  have hpb4 := Nat.mul_le_mul hc2 hk2
  have hpb4' : cN E S * kN E S l ≤ 107520 := by omega
  have hpb' : E * l ≤ 134400 := by omega
  have hm1 : S - 1 ≤ 255 := by omega
  have hm0 : 1 ≤ S - 1 := by omega
  clear hl hc hck hf hS h hr hS8 hS256
  generalize cN E S * kN E S l = P4 at *
  generalize kN E S l = K at *
  generalize E * l / 100 / cN E S = P3 at *
  generalize E * l / 100 = P2 at *
  generalize E * l = P1 at *
  generalize cN E S = C at *
  have hm2 : ((S - 1 : Nat) : Int) ≤ 255 := by omega
  generalize S - 1 = M at *
  have hM0 : ¬ M = 0 := by omega
  have hC0 : ¬ C = 0 := by omega
  have main : ∀ (hx : (P3 ≤ 2 ∧ K = 2) ∨ (2 < P3 ∧ P3 < 64 ∧ K = P3) ∨ (64 ≤ P3 ∧ K = 64)), Calls Try.prog 48 #[.agg #[.string s, .int .i64 kind, .int .i64 p, .int .i64 k, .int .i64 g, .slice A1 n1 c1, .int .i64 col, .slice (some ⟨b, o, none⟩) n2 c2], .int .i64 size, .int .i64 j] w fun e w' => e = .returned (.agg #[.int .i64 p, .int .i64 k, .int .i64 g, .int .i64 ((E : Int) - (P4 : Int)), .int .i64 (K : Int), .int .i64 (C : Int)]) ∧ Below w.heap.size w w' := by
    intro hx
    clear hK
    rcases hx with ⟨hx, rfl⟩ | ⟨hx, hy, rfl⟩ | ⟨hx, rfl⟩
    · go_enter Try.func48, Try.ntmps48
      go_wp2_with (go_at_call 86; with_reducible refine (HE.out _).mono ?_; rintro e1 w1 ⟨rfl, hb1⟩; obtain ⟨hc1, hf1⟩ := bcell hb1; have hB1 : Below w.heap.size w w1 := (below_then (by first | (go_grown; done) | (repeat (first | (with_reducible assumption) | (with_reducible exact Below.refl _ _) | (with_reducible refine below_drewN' ?_ _) | (with_reducible refine Below.drew ?_) | ((with_reducible refine Below.alloc ?_ ?_ _); rotate_left; focus (first | (simp; done) | (simp; omega) | omega)) | ((with_reducible refine Below.setCell ?_ ?_ _); rotate_left; focus (first | (simp; done) | (simp; omega) | omega))))) (by first | omega | (simp; done) | (simp; omega)) hb1); have hz1a : w.heap.size < w1.heap.size := (by have := hb1.size; first | omega | (simp at this; omega)); have hz1b : w.heap.size + 1 < w1.heap.size := (by have := hb1.size; first | omega | (simp at this; omega)))
      have hh1 := blk_below (blk_alloc (heap_alloc_new w (.cells #[.string s, .int .i64 kind, .int .i64 p, .int .i64 k, .int .i64 g, .slice A1 n1 c1, .int .i64 col, .slice (some ⟨b, o, none⟩) n2 c2] 34)) (by simp)) hb1 (by simp; omega)
      have hr1 : w1.heap[w.heap.size + 1]? = some (.cells #[.int .i64 0, .int .i64 0, .int .i64 0, .int .i64 0, .int .i64 0, .int .i64 0] 30 (0, 0)) := by
        refine blk_below ?_ hb1 (by first | (simp; done) | (simp; omega))
        (repeat (first | (with_reducible exact heap_alloc_new _ _) | (rw [heap_drew1]) | (rw [heap_drewN1]) | (rw [Below.heap_setCell _ _ _ _ (by first | omega | (simp; done) | (simp; omega))]) | (rw [Below.heap_alloc _ _ _ (by first | omega | (simp; done) | (simp; omega))]) | (exact heap_alloc_at (by first | omega | (simp; done) | (simp; omega)))))
      (go_at_call 88; with_reducible refine (HS.out _).mono ?_; rintro e2 w2 ⟨rfl, hb2⟩; obtain ⟨hc2, hf2⟩ := bcell hb2; have hB2 : Below w.heap.size w w2 := (below_then (by first | (go_grown; done) | (repeat (first | (with_reducible assumption) | (with_reducible exact Below.refl _ _) | (with_reducible refine below_drewN' ?_ _) | (with_reducible refine Below.drew ?_) | ((with_reducible refine Below.alloc ?_ ?_ _); rotate_left; focus (first | (simp; done) | (simp; omega) | omega)) | ((with_reducible refine Below.setCell ?_ ?_ _); rotate_left; focus (first | (simp; done) | (simp; omega) | omega))))) (by first | omega | (simp; done) | (simp; omega)) hb2); have hz2a : w.heap.size < w2.heap.size := (by have := hb2.size; first | omega | (simp at this; omega)); have hz2b : w.heap.size + 1 < w2.heap.size := (by have := hb2.size; first | omega | (simp at this; omega)))
      have hh2 := blk_below hh1 hb2 hz1a
      have hr2 := blk_below hr1 hb2 hz1b
      have hck := HRL.out w2 hB2
      obtain ⟨y0, y1, y2, y3, y4, y5, y6, y7, -⟩ := blk8 hh2
      obtain ⟨z0, z1, z2, z3, z4, z5, zf⟩ := blk6 hr2
      have hp5 := hp4
      try simp only [Int.cast_ofNat_Int] at hp5
      clear hc1 hf1 hc2 hf2 hh1 hr1 hh2
      go_wp2_with fail
      obtain ⟨s0, s1, s2, s3, s4, s5, -⟩ := blk6 (res6 hr2 (.int .i64 p) (.int .i64 k) (.int .i64 g) (.int .i64 ((E : Int) - (P4 : Int))) (.int .i64 2) (.int .i64 (C : Int)))
      (try simp only [Exit.inBlock, Exit.then]); refine bodyPost_ret (by simp [results, Try.results48, go_sem, s0, s1, s2, s3, s4, s5]; try rfl) rfl ?_
      exact ⟨rfl, by (repeat (first | (with_reducible assumption) | (with_reducible exact Below.refl _ _) | (with_reducible refine below_drewN' ?_ _) | (with_reducible refine Below.drew ?_) | ((with_reducible refine Below.alloc ?_ ?_ _); rotate_left; focus (first | (simp; done) | (simp; omega) | omega)) | ((with_reducible refine Below.setCell ?_ ?_ _); rotate_left; focus (first | (simp; done) | (simp; omega) | omega))))⟩
    · go_enter Try.func48, Try.ntmps48
      go_wp2_with (go_at_call 86; with_reducible refine (HE.out _).mono ?_; rintro e1 w1 ⟨rfl, hb1⟩; obtain ⟨hc1, hf1⟩ := bcell hb1; have hB1 : Below w.heap.size w w1 := (below_then (by first | (go_grown; done) | (repeat (first | (with_reducible assumption) | (with_reducible exact Below.refl _ _) | (with_reducible refine below_drewN' ?_ _) | (with_reducible refine Below.drew ?_) | ((with_reducible refine Below.alloc ?_ ?_ _); rotate_left; focus (first | (simp; done) | (simp; omega) | omega)) | ((with_reducible refine Below.setCell ?_ ?_ _); rotate_left; focus (first | (simp; done) | (simp; omega) | omega))))) (by first | omega | (simp; done) | (simp; omega)) hb1); have hz1a : w.heap.size < w1.heap.size := (by have := hb1.size; first | omega | (simp at this; omega)); have hz1b : w.heap.size + 1 < w1.heap.size := (by have := hb1.size; first | omega | (simp at this; omega)))
      have hh1 := blk_below (blk_alloc (heap_alloc_new w (.cells #[.string s, .int .i64 kind, .int .i64 p, .int .i64 k, .int .i64 g, .slice A1 n1 c1, .int .i64 col, .slice (some ⟨b, o, none⟩) n2 c2] 34)) (by simp)) hb1 (by simp; omega)
      have hr1 : w1.heap[w.heap.size + 1]? = some (.cells #[.int .i64 0, .int .i64 0, .int .i64 0, .int .i64 0, .int .i64 0, .int .i64 0] 30 (0, 0)) := by
        refine blk_below ?_ hb1 (by first | (simp; done) | (simp; omega))
        (repeat (first | (with_reducible exact heap_alloc_new _ _) | (rw [heap_drew1]) | (rw [heap_drewN1]) | (rw [Below.heap_setCell _ _ _ _ (by first | omega | (simp; done) | (simp; omega))]) | (rw [Below.heap_alloc _ _ _ (by first | omega | (simp; done) | (simp; omega))]) | (exact heap_alloc_at (by first | omega | (simp; done) | (simp; omega)))))
      (go_at_call 88; with_reducible refine (HS.out _).mono ?_; rintro e2 w2 ⟨rfl, hb2⟩; obtain ⟨hc2, hf2⟩ := bcell hb2; have hB2 : Below w.heap.size w w2 := (below_then (by first | (go_grown; done) | (repeat (first | (with_reducible assumption) | (with_reducible exact Below.refl _ _) | (with_reducible refine below_drewN' ?_ _) | (with_reducible refine Below.drew ?_) | ((with_reducible refine Below.alloc ?_ ?_ _); rotate_left; focus (first | (simp; done) | (simp; omega) | omega)) | ((with_reducible refine Below.setCell ?_ ?_ _); rotate_left; focus (first | (simp; done) | (simp; omega) | omega))))) (by first | omega | (simp; done) | (simp; omega)) hb2); have hz2a : w.heap.size < w2.heap.size := (by have := hb2.size; first | omega | (simp at this; omega)); have hz2b : w.heap.size + 1 < w2.heap.size := (by have := hb2.size; first | omega | (simp at this; omega)))
      have hh2 := blk_below hh1 hb2 hz1a
      have hr2 := blk_below hr1 hb2 hz1b
      have hck := HRL.out w2 hB2
      obtain ⟨y0, y1, y2, y3, y4, y5, y6, y7, -⟩ := blk8 hh2
      obtain ⟨z0, z1, z2, z3, z4, z5, zf⟩ := blk6 hr2
      have hp5 := hp4
      try simp only [Int.cast_ofNat_Int] at hp5
      clear hc1 hf1 hc2 hf2 hh1 hr1 hh2
      go_wp2_with fail
      obtain ⟨s0, s1, s2, s3, s4, s5, -⟩ := blk6 (res6 hr2 (.int .i64 p) (.int .i64 k) (.int .i64 g) (.int .i64 ((E : Int) - (P4 : Int))) (.int .i64 (K : Int)) (.int .i64 (C : Int)))
      (try simp only [Exit.inBlock, Exit.then]); refine bodyPost_ret (by simp [results, Try.results48, go_sem, s0, s1, s2, s3, s4, s5]; try rfl) rfl ?_
      exact ⟨rfl, by (repeat (first | (with_reducible assumption) | (with_reducible exact Below.refl _ _) | (with_reducible refine below_drewN' ?_ _) | (with_reducible refine Below.drew ?_) | ((with_reducible refine Below.alloc ?_ ?_ _); rotate_left; focus (first | (simp; done) | (simp; omega) | omega)) | ((with_reducible refine Below.setCell ?_ ?_ _); rotate_left; focus (first | (simp; done) | (simp; omega) | omega))))⟩
    · go_enter Try.func48, Try.ntmps48
      go_wp2_with (go_at_call 86; with_reducible refine (HE.out _).mono ?_; rintro e1 w1 ⟨rfl, hb1⟩; obtain ⟨hc1, hf1⟩ := bcell hb1; have hB1 : Below w.heap.size w w1 := (below_then (by first | (go_grown; done) | (repeat (first | (with_reducible assumption) | (with_reducible exact Below.refl _ _) | (with_reducible refine below_drewN' ?_ _) | (with_reducible refine Below.drew ?_) | ((with_reducible refine Below.alloc ?_ ?_ _); rotate_left; focus (first | (simp; done) | (simp; omega) | omega)) | ((with_reducible refine Below.setCell ?_ ?_ _); rotate_left; focus (first | (simp; done) | (simp; omega) | omega))))) (by first | omega | (simp; done) | (simp; omega)) hb1); have hz1a : w.heap.size < w1.heap.size := (by have := hb1.size; first | omega | (simp at this; omega)); have hz1b : w.heap.size + 1 < w1.heap.size := (by have := hb1.size; first | omega | (simp at this; omega)))
      have hh1 := blk_below (blk_alloc (heap_alloc_new w (.cells #[.string s, .int .i64 kind, .int .i64 p, .int .i64 k, .int .i64 g, .slice A1 n1 c1, .int .i64 col, .slice (some ⟨b, o, none⟩) n2 c2] 34)) (by simp)) hb1 (by simp; omega)
      have hr1 : w1.heap[w.heap.size + 1]? = some (.cells #[.int .i64 0, .int .i64 0, .int .i64 0, .int .i64 0, .int .i64 0, .int .i64 0] 30 (0, 0)) := by
        refine blk_below ?_ hb1 (by first | (simp; done) | (simp; omega))
        (repeat (first | (with_reducible exact heap_alloc_new _ _) | (rw [heap_drew1]) | (rw [heap_drewN1]) | (rw [Below.heap_setCell _ _ _ _ (by first | omega | (simp; done) | (simp; omega))]) | (rw [Below.heap_alloc _ _ _ (by first | omega | (simp; done) | (simp; omega))]) | (exact heap_alloc_at (by first | omega | (simp; done) | (simp; omega)))))
      (go_at_call 88; with_reducible refine (HS.out _).mono ?_; rintro e2 w2 ⟨rfl, hb2⟩; obtain ⟨hc2, hf2⟩ := bcell hb2; have hB2 : Below w.heap.size w w2 := (below_then (by first | (go_grown; done) | (repeat (first | (with_reducible assumption) | (with_reducible exact Below.refl _ _) | (with_reducible refine below_drewN' ?_ _) | (with_reducible refine Below.drew ?_) | ((with_reducible refine Below.alloc ?_ ?_ _); rotate_left; focus (first | (simp; done) | (simp; omega) | omega)) | ((with_reducible refine Below.setCell ?_ ?_ _); rotate_left; focus (first | (simp; done) | (simp; omega) | omega))))) (by first | omega | (simp; done) | (simp; omega)) hb2); have hz2a : w.heap.size < w2.heap.size := (by have := hb2.size; first | omega | (simp at this; omega)); have hz2b : w.heap.size + 1 < w2.heap.size := (by have := hb2.size; first | omega | (simp at this; omega)))
      have hh2 := blk_below hh1 hb2 hz1a
      have hr2 := blk_below hr1 hb2 hz1b
      have hck := HRL.out w2 hB2
      obtain ⟨y0, y1, y2, y3, y4, y5, y6, y7, -⟩ := blk8 hh2
      obtain ⟨z0, z1, z2, z3, z4, z5, zf⟩ := blk6 hr2
      have hp5 := hp4
      try simp only [Int.cast_ofNat_Int] at hp5
      clear hc1 hf1 hc2 hf2 hh1 hr1 hh2
      go_wp2_with fail
      obtain ⟨s0, s1, s2, s3, s4, s5, -⟩ := blk6 (res6 hr2 (.int .i64 p) (.int .i64 k) (.int .i64 g) (.int .i64 ((E : Int) - (P4 : Int))) (.int .i64 64) (.int .i64 (C : Int)))
      (try simp only [Exit.inBlock, Exit.then]); refine bodyPost_ret (by simp [results, Try.results48, go_sem, s0, s1, s2, s3, s4, s5]; try rfl) rfl ?_
      exact ⟨rfl, by (repeat (first | (with_reducible assumption) | (with_reducible exact Below.refl _ _) | (with_reducible refine below_drewN' ?_ _) | (with_reducible refine Below.drew ?_) | ((with_reducible refine Below.alloc ?_ ?_ _); rotate_left; focus (first | (simp; done) | (simp; omega) | omega)) | ((with_reducible refine Below.setCell ?_ ?_ _); rotate_left; focus (first | (simp; done) | (simp; omega) | omega))))⟩
  exact main (by rw [hK]; omega)

end Go.Proofs.Ytbgcbjfimjfbpaa
namespace Go.Proofs.Ytbgcbjfimjfbpaa
set_option linter.unusedSimpArgs false
open Go.RowKit

/-- What LayoutOf finds: whether there is a layout, its code, its parts. -/
def loB (fam has lev lay : Bool) : Bool := fam && (has && (lev && lay))
def loC (fam has lev lay : Bool) : Int := bif fam then (bif has && lev then (bif lay then 0 else 3) else 2) else 1
def loI (b : Bool) (x : Int) : Int := bif b then x else 0
def layOf (kind p k g col size l : Int) : Bool := layB p k g (layDat kind p k col size l) (layChk kind p k col size l : Nat) (layCnt kind p k col size : Nat)
theorem hasSize_any (s : ByteArray) (kind p k g col : Int) (A1 A2 : Option Addr) (n1 c1 n2 c2 : Nat) (sz lv : List Int) (size : Int) (w : World) (B : Nat) (hF : FamOk w B s A1 n1 sz A2 n2 lv) (hB : B ≤ w.heap.size) :
    Calls Try.prog 51 #[.agg #[.string s, .int .i64 kind, .int .i64 p, .int .i64 k, .int .i64 g, .slice A1 n1 c1, .int .i64 col, .slice A2 n2 c2], .int .i64 size] w fun e w' => e = .returned (.bool (hasB size sz)) ∧ Below w.heap.size w w' := by
  have HS := Lib.hid (fun (w' : World) (hb : Below w.heap.size w w') => Contains_any size A1 n1 c1 sz w' w.heap.size ((hF.h1.more hB).below hb) (by have := hF.l1; omega))
  clear hF
  go_enter Try.func51, Try.ntmps51
  go_wp2_with fail
  (go_at_call 90; refine (HS.out _ (by (repeat (first | (with_reducible assumption) | (with_reducible exact Below.refl _ _) | (with_reducible refine below_drewN' ?_ _) | (with_reducible refine Below.drew ?_) | ((with_reducible refine Below.alloc ?_ ?_ _); rotate_left; focus (first | (simp; done) | (simp; omega) | omega)) | ((with_reducible refine Below.setCell ?_ ?_ _); rotate_left; focus (first | (simp; done) | (simp; omega) | omega)))))).mono ?_; rintro e w' ⟨rfl, rfl⟩)
  go_wp2_with fail
  go_ret
  exact ⟨rfl, by (repeat (first | (with_reducible assumption) | (with_reducible exact Below.refl _ _) | (with_reducible refine below_drewN' ?_ _) | (with_reducible refine Below.drew ?_) | ((with_reducible refine Below.alloc ?_ ?_ _); rotate_left; focus (first | (simp; done) | (simp; omega) | omega)) | ((with_reducible refine Below.setCell ?_ ?_ _); rotate_left; focus (first | (simp; done) | (simp; omega) | omega))))⟩
theorem hasLevel_any (s : ByteArray) (kind p k g col : Int) (A1 A2 : Option Addr) (n1 c1 n2 c2 : Nat) (_sz _lv : List Int) (level : Int) (w : World) (hn : n2 ≤ 1000000000000) :
    Calls Try.prog 52 #[.agg #[.string s, .int .i64 kind, .int .i64 p, .int .i64 k, .int .i64 g, .slice A1 n1 c1, .int .i64 col, .slice A2 n2 c2], .int .i64 level] w fun e w' => e = .returned (.bool (inR level 0 ((n2 : Int) - 1))) ∧ Below w.heap.size w w' := by
  go_enter Try.func52, Try.ntmps52
  go_wp2_with (go_at_call 60; refine (inRange_any _ _ _ _).mono ?_; rintro e w' ⟨rfl, rfl⟩)
  go_ret
  exact ⟨rfl, by (repeat (first | (with_reducible assumption) | (with_reducible exact Below.refl _ _) | (with_reducible refine below_drewN' ?_ _) | (with_reducible refine Below.drew ?_) | ((with_reducible refine Below.alloc ?_ ?_ _); rotate_left; focus (first | (simp; done) | (simp; omega) | omega)) | ((with_reducible refine Below.setCell ?_ ?_ _); rotate_left; focus (first | (simp; done) | (simp; omega) | omega))))⟩
/-- The code of a family and a size. -/
def ecC (fam has : Bool) : Int := bif fam then (bif has then 0 else 2) else 1
set_option maxHeartbeats 1000000 in
theorem l13Code_any (s : ByteArray) (kind p k g col : Int) (A1 A2 : Option Addr) (n1 c1 n2 c2 : Nat) (sz lv : List Int) (size : Int) (w : World) (B : Nat) (hF : FamOk w B s A1 n1 sz A2 n2 lv) (hB : B ≤ w.heap.size) :
    Calls Try.prog 46 #[.agg #[.string s, .int .i64 kind, .int .i64 p, .int .i64 k, .int .i64 g, .slice A1 n1 c1, .int .i64 col, .slice A2 n2 c2], .int .i64 size] w fun e w' => e = .returned (.int .i64 (ecC (famB s kind p k g col n1 sz n2 lv) (hasB size sz))) ∧ Below w.heap.size w w' := by
  have HI := Lib.hid (fun (w' : World) (hb : Below w.heap.size w w') => sIsFamily_any s kind p k g col A1 A2 n1 c1 n2 c2 sz lv w' w.heap.size ((hF.more hB).below hb) hb.size)
  have HS := Lib.hid (fun (w' : World) (hb : Below w.heap.size w w') => l05Has_any size A1 n1 c1 sz w' w.heap.size ((hF.h1.more hB).below hb) (by have := hF.l1; omega))
  clear hF
  generalize famB s kind p k g col n1 sz n2 lv = fam at *
  generalize hasB size sz = has at *
  cases fam
  · go_enter Try.func46, Try.ntmps46
    go_wp2_with fail
    (go_at_call 20; refine (HI.out _ (by (repeat (first | (with_reducible assumption) | (with_reducible exact Below.refl _ _) | (with_reducible refine below_drewN' ?_ _) | (with_reducible refine Below.drew ?_) | ((with_reducible refine Below.alloc ?_ ?_ _); rotate_left; focus (first | (simp; done) | (simp; omega) | omega)) | ((with_reducible refine Below.setCell ?_ ?_ _); rotate_left; focus (first | (simp; done) | (simp; omega) | omega)))))).mono ?_; rintro e1 w1 ⟨rfl, hb1⟩; obtain ⟨hc1, hf1⟩ := bcell hb1; have hB1 : Below w.heap.size w w1 := (below_then (by first | (go_grown; done) | (repeat (first | (with_reducible assumption) | (with_reducible exact Below.refl _ _) | (with_reducible refine below_drewN' ?_ _) | (with_reducible refine Below.drew ?_) | ((with_reducible refine Below.alloc ?_ ?_ _); rotate_left; focus (first | (simp; done) | (simp; omega) | omega)) | ((with_reducible refine Below.setCell ?_ ?_ _); rotate_left; focus (first | (simp; done) | (simp; omega) | omega))))) (by first | omega | (simp; done) | (simp; omega)) hb1); have hz1a : w.heap.size < w1.heap.size := (by have := hb1.size; first | omega | (simp at this; omega)))
    go_wp2_with fail
    go_ret
    exact ⟨rfl, by (repeat (first | (with_reducible assumption) | (with_reducible exact Below.refl _ _) | (with_reducible refine below_drewN' ?_ _) | (with_reducible refine Below.drew ?_) | ((with_reducible refine Below.alloc ?_ ?_ _); rotate_left; focus (first | (simp; done) | (simp; omega) | omega)) | ((with_reducible refine Below.setCell ?_ ?_ _); rotate_left; focus (first | (simp; done) | (simp; omega) | omega))))⟩
  · cases has
    all_goals
      go_enter Try.func46, Try.ntmps46
      go_wp2_with fail
      (go_at_call 20; refine (HI.out _ (by (repeat (first | (with_reducible assumption) | (with_reducible exact Below.refl _ _) | (with_reducible refine below_drewN' ?_ _) | (with_reducible refine Below.drew ?_) | ((with_reducible refine Below.alloc ?_ ?_ _); rotate_left; focus (first | (simp; done) | (simp; omega) | omega)) | ((with_reducible refine Below.setCell ?_ ?_ _); rotate_left; focus (first | (simp; done) | (simp; omega) | omega)))))).mono ?_; rintro e1 w1 ⟨rfl, hb1⟩; obtain ⟨hc1, hf1⟩ := bcell hb1; have hB1 : Below w.heap.size w w1 := (below_then (by first | (go_grown; done) | (repeat (first | (with_reducible assumption) | (with_reducible exact Below.refl _ _) | (with_reducible refine below_drewN' ?_ _) | (with_reducible refine Below.drew ?_) | ((with_reducible refine Below.alloc ?_ ?_ _); rotate_left; focus (first | (simp; done) | (simp; omega) | omega)) | ((with_reducible refine Below.setCell ?_ ?_ _); rotate_left; focus (first | (simp; done) | (simp; omega) | omega))))) (by first | omega | (simp; done) | (simp; omega)) hb1); have hz1a : w.heap.size < w1.heap.size := (by have := hb1.size; first | omega | (simp at this; omega)))
      go_wp2_with fail
      (go_at_call 80; refine (HS.out _ (by (repeat (first | (with_reducible assumption) | (with_reducible exact Below.refl _ _) | (with_reducible refine below_drewN' ?_ _) | (with_reducible refine Below.drew ?_) | ((with_reducible refine Below.alloc ?_ ?_ _); rotate_left; focus (first | (simp; done) | (simp; omega) | omega)) | ((with_reducible refine Below.setCell ?_ ?_ _); rotate_left; focus (first | (simp; done) | (simp; omega) | omega)))))).mono ?_; rintro e w' ⟨rfl, rfl⟩)
      go_wp2_with fail
      go_ret
      exact ⟨rfl, by (repeat (first | (with_reducible assumption) | (with_reducible exact Below.refl _ _) | (with_reducible refine below_drewN' ?_ _) | (with_reducible refine Below.drew ?_) | ((with_reducible refine Below.alloc ?_ ?_ _); rotate_left; focus (first | (simp; done) | (simp; omega) | omega)) | ((with_reducible refine Below.setCell ?_ ?_ _); rotate_left; focus (first | (simp; done) | (simp; omega) | omega))))⟩
/-- How many elements, or 0. -/
def ecV (fam has : Bool) (E : Nat) : Int := bif fam && has then (E : Int) else 0
set_option maxHeartbeats 2000000 in
theorem ElementCount_any (s : ByteArray) (kind p k g col : Int) (A1 A2 : Option Addr) (n1 c1 n2 c2 : Nat) (sz lv : List Int) (size : Int) (w : World) (B : Nat) (hF : FamOk w B s A1 n1 sz A2 n2 lv) (hB : B ≤ w.heap.size) :
    Calls Try.prog 21 #[.agg #[.string s, .int .i64 kind, .int .i64 p, .int .i64 k, .int .i64 g, .slice A1 n1 c1, .int .i64 col, .slice A2 n2 c2], .int .i64 size] w fun e w' => e = .returned (.tuple #[.int .i64 (ecV (famB s kind p k g col n1 sz n2 lv) (hasB size sz) (elN kind p k col size)), .int .i64 (ecC (famB s kind p k g col n1 sz n2 lv) (hasB size sz))]) ∧ Below w.heap.size w w' := by
  have HI := Lib.hid (fun (w' : World) (hb : Below w.heap.size w w') => IsFamily_any s kind p k g col A1 A2 n1 c1 n2 c2 sz lv w' w.heap.size ((hF.more hB).below hb) hb.size)
  have HS := Lib.hid (fun (w' : World) (hb : Below w.heap.size w w') => hasSize_any s kind p k g col A1 A2 n1 c1 n2 c2 sz lv size w' w.heap.size ((hF.more hB).below hb) hb.size)
  clear hF
  cases hfam : famB s kind p k g col n1 sz n2 lv
  · rw [hfam] at HI
    clear hfam
    go_enter Try.func21, Try.ntmps21
    go_wp2_with fail
    (go_at_call 19; refine (HI.out _ (by (repeat (first | (with_reducible assumption) | (with_reducible exact Below.refl _ _) | (with_reducible refine below_drewN' ?_ _) | (with_reducible refine Below.drew ?_) | ((with_reducible refine Below.alloc ?_ ?_ _); rotate_left; focus (first | (simp; done) | (simp; omega) | omega)) | ((with_reducible refine Below.setCell ?_ ?_ _); rotate_left; focus (first | (simp; done) | (simp; omega) | omega)))))).mono ?_; rintro e1 w1 ⟨rfl, hb1⟩; obtain ⟨hc1, hf1⟩ := bcell hb1; have hB1 : Below w.heap.size w w1 := (below_then (by first | (go_grown; done) | (repeat (first | (with_reducible assumption) | (with_reducible exact Below.refl _ _) | (with_reducible refine below_drewN' ?_ _) | (with_reducible refine Below.drew ?_) | ((with_reducible refine Below.alloc ?_ ?_ _); rotate_left; focus (first | (simp; done) | (simp; omega) | omega)) | ((with_reducible refine Below.setCell ?_ ?_ _); rotate_left; focus (first | (simp; done) | (simp; omega) | omega))))) (by first | omega | (simp; done) | (simp; omega)) hb1); have hz1a : w.heap.size < w1.heap.size := (by have := hb1.size; first | omega | (simp at this; omega)))
    go_wp2_with fail
    go_returns
    exact ⟨by first | rfl | simp [ecV, ecC], by (repeat (first | (with_reducible assumption) | (with_reducible exact Below.refl _ _) | (with_reducible refine below_drewN' ?_ _) | (with_reducible refine Below.drew ?_) | ((with_reducible refine Below.alloc ?_ ?_ _); rotate_left; focus (first | (simp; done) | (simp; omega) | omega)) | ((with_reducible refine Below.setCell ?_ ?_ _); rotate_left; focus (first | (simp; done) | (simp; omega) | omega))))⟩
  · rw [hfam] at HI
    cases hhas : hasB size sz
    · rw [hhas] at HS
      clear hfam hhas
      go_enter Try.func21, Try.ntmps21
      go_wp2_with fail
      (go_at_call 19; refine (HI.out _ (by (repeat (first | (with_reducible assumption) | (with_reducible exact Below.refl _ _) | (with_reducible refine below_drewN' ?_ _) | (with_reducible refine Below.drew ?_) | ((with_reducible refine Below.alloc ?_ ?_ _); rotate_left; focus (first | (simp; done) | (simp; omega) | omega)) | ((with_reducible refine Below.setCell ?_ ?_ _); rotate_left; focus (first | (simp; done) | (simp; omega) | omega)))))).mono ?_; rintro e1 w1 ⟨rfl, hb1⟩; obtain ⟨hc1, hf1⟩ := bcell hb1; have hB1 : Below w.heap.size w w1 := (below_then (by first | (go_grown; done) | (repeat (first | (with_reducible assumption) | (with_reducible exact Below.refl _ _) | (with_reducible refine below_drewN' ?_ _) | (with_reducible refine Below.drew ?_) | ((with_reducible refine Below.alloc ?_ ?_ _); rotate_left; focus (first | (simp; done) | (simp; omega) | omega)) | ((with_reducible refine Below.setCell ?_ ?_ _); rotate_left; focus (first | (simp; done) | (simp; omega) | omega))))) (by first | omega | (simp; done) | (simp; omega)) hb1); have hz1a : w.heap.size < w1.heap.size := (by have := hb1.size; first | omega | (simp at this; omega)))
      go_wp2_with fail
      (go_at_call 51; refine (HS.out _ (by (repeat (first | (with_reducible assumption) | (with_reducible exact Below.refl _ _) | (with_reducible refine below_drewN' ?_ _) | (with_reducible refine Below.drew ?_) | ((with_reducible refine Below.alloc ?_ ?_ _); rotate_left; focus (first | (simp; done) | (simp; omega) | omega)) | ((with_reducible refine Below.setCell ?_ ?_ _); rotate_left; focus (first | (simp; done) | (simp; omega) | omega)))))).mono ?_; rintro e2 w2 ⟨rfl, hb2⟩; obtain ⟨hc2, hf2⟩ := bcell hb2; have hB2 : Below w.heap.size w w2 := (below_then (by first | (go_grown; done) | (repeat (first | (with_reducible assumption) | (with_reducible exact Below.refl _ _) | (with_reducible refine below_drewN' ?_ _) | (with_reducible refine Below.drew ?_) | ((with_reducible refine Below.alloc ?_ ?_ _); rotate_left; focus (first | (simp; done) | (simp; omega) | omega)) | ((with_reducible refine Below.setCell ?_ ?_ _); rotate_left; focus (first | (simp; done) | (simp; omega) | omega))))) (by first | omega | (simp; done) | (simp; omega)) hb2); have hz2a : w.heap.size < w2.heap.size := (by have := hb2.size; first | omega | (simp at this; omega)))
      go_wp2_with fail
      go_returns
      exact ⟨by first | rfl | simp [ecV, ecC], by (repeat (first | (with_reducible assumption) | (with_reducible exact Below.refl _ _) | (with_reducible refine below_drewN' ?_ _) | (with_reducible refine Below.drew ?_) | ((with_reducible refine Below.alloc ?_ ?_ _); rotate_left; focus (first | (simp; done) | (simp; omega) | omega)) | ((with_reducible refine Below.setCell ?_ ?_ _); rotate_left; focus (first | (simp; done) | (simp; omega) | omega))))⟩
    · rw [hhas] at HS
      have HE := Lib.hid (fun w => elements_any s kind p k g col A1 A2 n1 c1 n2 c2 sz lv size w (fam_size hfam hhas))
      clear hfam hhas
      generalize elN kind p k col size = E at *
      go_enter Try.func21, Try.ntmps21
      go_wp2_with fail
      (go_at_call 19; refine (HI.out _ (by (repeat (first | (with_reducible assumption) | (with_reducible exact Below.refl _ _) | (with_reducible refine below_drewN' ?_ _) | (with_reducible refine Below.drew ?_) | ((with_reducible refine Below.alloc ?_ ?_ _); rotate_left; focus (first | (simp; done) | (simp; omega) | omega)) | ((with_reducible refine Below.setCell ?_ ?_ _); rotate_left; focus (first | (simp; done) | (simp; omega) | omega)))))).mono ?_; rintro e1 w1 ⟨rfl, hb1⟩; obtain ⟨hc1, hf1⟩ := bcell hb1; have hB1 : Below w.heap.size w w1 := (below_then (by first | (go_grown; done) | (repeat (first | (with_reducible assumption) | (with_reducible exact Below.refl _ _) | (with_reducible refine below_drewN' ?_ _) | (with_reducible refine Below.drew ?_) | ((with_reducible refine Below.alloc ?_ ?_ _); rotate_left; focus (first | (simp; done) | (simp; omega) | omega)) | ((with_reducible refine Below.setCell ?_ ?_ _); rotate_left; focus (first | (simp; done) | (simp; omega) | omega))))) (by first | omega | (simp; done) | (simp; omega)) hb1); have hz1a : w.heap.size < w1.heap.size := (by have := hb1.size; first | omega | (simp at this; omega)))
      go_wp2_with fail
      (go_at_call 51; refine (HS.out _ (by (repeat (first | (with_reducible assumption) | (with_reducible exact Below.refl _ _) | (with_reducible refine below_drewN' ?_ _) | (with_reducible refine Below.drew ?_) | ((with_reducible refine Below.alloc ?_ ?_ _); rotate_left; focus (first | (simp; done) | (simp; omega) | omega)) | ((with_reducible refine Below.setCell ?_ ?_ _); rotate_left; focus (first | (simp; done) | (simp; omega) | omega)))))).mono ?_; rintro e2 w2 ⟨rfl, hb2⟩; obtain ⟨hc2, hf2⟩ := bcell hb2; have hB2 : Below w.heap.size w w2 := (below_then (by first | (go_grown; done) | (repeat (first | (with_reducible assumption) | (with_reducible exact Below.refl _ _) | (with_reducible refine below_drewN' ?_ _) | (with_reducible refine Below.drew ?_) | ((with_reducible refine Below.alloc ?_ ?_ _); rotate_left; focus (first | (simp; done) | (simp; omega) | omega)) | ((with_reducible refine Below.setCell ?_ ?_ _); rotate_left; focus (first | (simp; done) | (simp; omega) | omega))))) (by first | omega | (simp; done) | (simp; omega)) hb2); have hz2a : w.heap.size < w2.heap.size := (by have := hb2.size; first | omega | (simp at this; omega)))
      go_wp2_with (go_at_call 69; with_reducible refine (HE.out _).mono ?_; rintro e3 w3 ⟨rfl, hb3⟩; obtain ⟨hc3, hf3⟩ := bcell hb3; have hB3 : Below w.heap.size w w3 := (below_then (by first | (go_grown; done) | (repeat (first | (with_reducible assumption) | (with_reducible exact Below.refl _ _) | (with_reducible refine below_drewN' ?_ _) | (with_reducible refine Below.drew ?_) | ((with_reducible refine Below.alloc ?_ ?_ _); rotate_left; focus (first | (simp; done) | (simp; omega) | omega)) | ((with_reducible refine Below.setCell ?_ ?_ _); rotate_left; focus (first | (simp; done) | (simp; omega) | omega))))) (by first | omega | (simp; done) | (simp; omega)) hb3); have hz3a : w.heap.size < w3.heap.size := (by have := hb3.size; first | omega | (simp at this; omega)))
      go_returns
      exact ⟨by first | rfl | simp [ecV, ecC], by (repeat (first | (with_reducible assumption) | (with_reducible exact Below.refl _ _) | (with_reducible refine below_drewN' ?_ _) | (with_reducible refine Below.drew ?_) | ((with_reducible refine Below.alloc ?_ ?_ _); rotate_left; focus (first | (simp; done) | (simp; omega) | omega)) | ((with_reducible refine Below.setCell ?_ ?_ _); rotate_left; focus (first | (simp; done) | (simp; omega) | omega))))⟩
set_option maxHeartbeats 2000000 in
theorem sElementCount_any (s : ByteArray) (kind p k g col : Int) (A1 A2 : Option Addr) (n1 c1 n2 c2 : Nat) (sz lv : List Int) (size : Int) (w : World) (B : Nat) (hF : FamOk w B s A1 n1 sz A2 n2 lv) (hB : B ≤ w.heap.size) :
    Calls Try.prog 42 #[.agg #[.string s, .int .i64 kind, .int .i64 p, .int .i64 k, .int .i64 g, .slice A1 n1 c1, .int .i64 col, .slice A2 n2 c2], .int .i64 size] w fun e w' => e = .returned (.tuple #[.int .i64 (ecV (famB s kind p k g col n1 sz n2 lv) (hasB size sz) (elN kind p k col size)), .int .i64 (ecC (famB s kind p k g col n1 sz n2 lv) (hasB size sz))]) ∧ Below w.heap.size w w' := by
  have HC := Lib.hid (fun (w' : World) (hb : Below w.heap.size w w') => l13Code_any s kind p k g col A1 A2 n1 c1 n2 c2 sz lv size w' w.heap.size ((hF.more hB).below hb) hb.size)
  clear hF
  cases hfam : famB s kind p k g col n1 sz n2 lv
  · rw [hfam] at HC
    clear hfam
    generalize hasB size sz = has at *
    rw [show ecC false has = 1 from rfl] at *
    go_enter Try.func42, Try.ntmps42
    go_wp2_with fail
    (go_at_call 46; refine (HC.out _ (by (repeat (first | (with_reducible assumption) | (with_reducible exact Below.refl _ _) | (with_reducible refine below_drewN' ?_ _) | (with_reducible refine Below.drew ?_) | ((with_reducible refine Below.alloc ?_ ?_ _); rotate_left; focus (first | (simp; done) | (simp; omega) | omega)) | ((with_reducible refine Below.setCell ?_ ?_ _); rotate_left; focus (first | (simp; done) | (simp; omega) | omega)))))).mono ?_; rintro e1 w1 ⟨rfl, hb1⟩; obtain ⟨hc1, hf1⟩ := bcell hb1; have hB1 : Below w.heap.size w w1 := (below_then (by first | (go_grown; done) | (repeat (first | (with_reducible assumption) | (with_reducible exact Below.refl _ _) | (with_reducible refine below_drewN' ?_ _) | (with_reducible refine Below.drew ?_) | ((with_reducible refine Below.alloc ?_ ?_ _); rotate_left; focus (first | (simp; done) | (simp; omega) | omega)) | ((with_reducible refine Below.setCell ?_ ?_ _); rotate_left; focus (first | (simp; done) | (simp; omega) | omega))))) (by first | omega | (simp; done) | (simp; omega)) hb1); have hz1a : w.heap.size < w1.heap.size := (by have := hb1.size; first | omega | (simp at this; omega)))
    go_wp2_with fail
    go_returns
    exact ⟨by first | rfl | simp [ecV], by (repeat (first | (with_reducible assumption) | (with_reducible exact Below.refl _ _) | (with_reducible refine below_drewN' ?_ _) | (with_reducible refine Below.drew ?_) | ((with_reducible refine Below.alloc ?_ ?_ _); rotate_left; focus (first | (simp; done) | (simp; omega) | omega)) | ((with_reducible refine Below.setCell ?_ ?_ _); rotate_left; focus (first | (simp; done) | (simp; omega) | omega))))⟩
  · cases hhas : hasB size sz
    · rw [hfam, hhas, show ecC true false = 2 from rfl] at HC
      rw [show ecC true false = 2 from rfl]
      clear hfam hhas
      go_enter Try.func42, Try.ntmps42
      go_wp2_with fail
      (go_at_call 46; refine (HC.out _ (by (repeat (first | (with_reducible assumption) | (with_reducible exact Below.refl _ _) | (with_reducible refine below_drewN' ?_ _) | (with_reducible refine Below.drew ?_) | ((with_reducible refine Below.alloc ?_ ?_ _); rotate_left; focus (first | (simp; done) | (simp; omega) | omega)) | ((with_reducible refine Below.setCell ?_ ?_ _); rotate_left; focus (first | (simp; done) | (simp; omega) | omega)))))).mono ?_; rintro e1 w1 ⟨rfl, hb1⟩; obtain ⟨hc1, hf1⟩ := bcell hb1; have hB1 : Below w.heap.size w w1 := (below_then (by first | (go_grown; done) | (repeat (first | (with_reducible assumption) | (with_reducible exact Below.refl _ _) | (with_reducible refine below_drewN' ?_ _) | (with_reducible refine Below.drew ?_) | ((with_reducible refine Below.alloc ?_ ?_ _); rotate_left; focus (first | (simp; done) | (simp; omega) | omega)) | ((with_reducible refine Below.setCell ?_ ?_ _); rotate_left; focus (first | (simp; done) | (simp; omega) | omega))))) (by first | omega | (simp; done) | (simp; omega)) hb1); have hz1a : w.heap.size < w1.heap.size := (by have := hb1.size; first | omega | (simp at this; omega)))
      go_wp2_with fail
      go_returns
      exact ⟨by first | rfl | simp [ecV], by (repeat (first | (with_reducible assumption) | (with_reducible exact Below.refl _ _) | (with_reducible refine below_drewN' ?_ _) | (with_reducible refine Below.drew ?_) | ((with_reducible refine Below.alloc ?_ ?_ _); rotate_left; focus (first | (simp; done) | (simp; omega) | omega)) | ((with_reducible refine Below.setCell ?_ ?_ _); rotate_left; focus (first | (simp; done) | (simp; omega) | omega))))⟩
    · rw [hfam, hhas, show ecC true true = 0 from rfl] at HC
      rw [show ecC true true = 0 from rfl]
      have HE := Lib.hid (fun w => l13Elements_any s kind p k g col A1 A2 n1 c1 n2 c2 sz lv size w (fam_size hfam hhas))
      clear hfam hhas
      generalize elN kind p k col size = E at *
      go_enter Try.func42, Try.ntmps42
      go_wp2_with fail
      (go_at_call 46; refine (HC.out _ (by (repeat (first | (with_reducible assumption) | (with_reducible exact Below.refl _ _) | (with_reducible refine below_drewN' ?_ _) | (with_reducible refine Below.drew ?_) | ((with_reducible refine Below.alloc ?_ ?_ _); rotate_left; focus (first | (simp; done) | (simp; omega) | omega)) | ((with_reducible refine Below.setCell ?_ ?_ _); rotate_left; focus (first | (simp; done) | (simp; omega) | omega)))))).mono ?_; rintro e1 w1 ⟨rfl, hb1⟩; obtain ⟨hc1, hf1⟩ := bcell hb1; have hB1 : Below w.heap.size w w1 := (below_then (by first | (go_grown; done) | (repeat (first | (with_reducible assumption) | (with_reducible exact Below.refl _ _) | (with_reducible refine below_drewN' ?_ _) | (with_reducible refine Below.drew ?_) | ((with_reducible refine Below.alloc ?_ ?_ _); rotate_left; focus (first | (simp; done) | (simp; omega) | omega)) | ((with_reducible refine Below.setCell ?_ ?_ _); rotate_left; focus (first | (simp; done) | (simp; omega) | omega))))) (by first | omega | (simp; done) | (simp; omega)) hb1); have hz1a : w.heap.size < w1.heap.size := (by have := hb1.size; first | omega | (simp at this; omega)))
      go_wp2_with (go_at_call 86; with_reducible refine (HE.out _).mono ?_; rintro e3 w3 ⟨rfl, hb3⟩; obtain ⟨hc3, hf3⟩ := bcell hb3; have hB3 : Below w.heap.size w w3 := (below_then (by first | (go_grown; done) | (repeat (first | (with_reducible assumption) | (with_reducible exact Below.refl _ _) | (with_reducible refine below_drewN' ?_ _) | (with_reducible refine Below.drew ?_) | ((with_reducible refine Below.alloc ?_ ?_ _); rotate_left; focus (first | (simp; done) | (simp; omega) | omega)) | ((with_reducible refine Below.setCell ?_ ?_ _); rotate_left; focus (first | (simp; done) | (simp; omega) | omega))))) (by first | omega | (simp; done) | (simp; omega)) hb3); have hz3a : w.heap.size < w3.heap.size := (by have := hb3.size; first | omega | (simp at this; omega)))
      go_returns
      exact ⟨by first | rfl | simp [ecV], by (repeat (first | (with_reducible assumption) | (with_reducible exact Below.refl _ _) | (with_reducible refine below_drewN' ?_ _) | (with_reducible refine Below.drew ?_) | ((with_reducible refine Below.alloc ?_ ?_ _); rotate_left; focus (first | (simp; done) | (simp; omega) | omega)) | ((with_reducible refine Below.setCell ?_ ?_ _); rotate_left; focus (first | (simp; done) | (simp; omega) | omega))))⟩
end Go.Proofs.Ytbgcbjfimjfbpaa
namespace Go.Proofs.Ytbgcbjfimjfbpaa
set_option linter.unusedSimpArgs false
open Go.RowKit

theorem lev_facts {level : Int} {n2 : Nat} (h : inR level 0 ((n2 : Int) - 1) = true) : ∃ j : Nat, level = j ∧ j < n2 := by
  have b := inR_true h
  obtain ⟨j, rfl⟩ := Int.eq_ofNat_of_zero_le (show 0 ≤ level by omega)
  exact ⟨j, rfl, by omega⟩
theorem fam_lev {s : ByteArray} {kind p k g col : Int} {n1 n2 : Nat} {sz lv : List Int} (h : famB s kind p k g col n1 sz n2 lv = true) {j : Nat} (hj : j < lv.length) : 1 ≤ nth lv j ∧ nth lv j ≤ 80 := by
  unfold famB at h
  simp only [Bool.and_eq_true] at h
  exact risB_in h.2.2.2.1 hj
theorem loC_no {fam has lev lay : Bool} (h : loB fam has lev lay = false) : loC fam has lev lay = 1 ∨ loC fam has lev lay = 2 ∨ loC fam has lev lay = 3 := by
  cases fam <;> cases has <;> cases lev <;> cases lay <;> simp_all [loB, loC]
theorem loC_yes {fam has lev lay : Bool} (h : loB fam has lev lay = true) : loC fam has lev lay = 0 ∧ fam = true ∧ lay = true := by
  cases fam <;> cases has <;> cases lev <;> cases lay <;> simp_all [loB, loC]
theorem lay_field {kind p k g col size l : Int} (h : layOf kind p k g col size l = true) : fieldB p k g = true := by
  obtain ⟨_, _, _, _, _, _, _, _, _, _, _, _, _, hf⟩ := layB_true h
  exact hf
theorem widV_bd {p k g : Int} (h : fieldB p k g = true) : 0 ≤ widV (fsize p k) ∧ widV (fsize p k) ≤ 10 := by
  obtain ⟨S, hS, h3, h4⟩ := fieldB_size h
  rw [hS]
  unfold widV
  rw [Int.toNat_natCast]
  have h1 : Nat.log2 S < 10 := (Nat.log2_lt (by omega)).2 (by omega)
  omega
theorem lay_room {kind p k g col size l : Int} (h : layOf kind p k g col size l = true) (hf : fieldB p k g = true) :
    IntKind.i64.wrap (layDat kind p k col size l * widV (fsize p k)) = layDat kind p k col size l * widV (fsize p k) ∧ (0 ≤ layDat kind p k col size l ∧ layDat kind p k col size l ≤ 1500) ∧ (0 ≤ widV (fsize p k) ∧ widV (fsize p k) ≤ 10) := by
  obtain ⟨D, C, H, hd, hc, hh, h1, h2, h3, h4, h5, h6, h7, _⟩ := layB_true h
  have hw := widV_bd hf
  rw [hd]
  have hm := mul_bd (show (0 : Int) ≤ D by omega) (show (D : Int) ≤ 1500 by omega) hw.1 hw.2
  exact ⟨wr64 (by omega), by omega, hw⟩
set_option maxHeartbeats 8000000 in
theorem LayoutOf_any (s : ByteArray) (kind p k g col : Int) (A1 A2 : Option Addr) (n1 c1 n2 c2 : Nat) (sz lv : List Int) (size level : Int) (w : World) (B : Nat) (hF : FamOk w B s A1 n1 sz A2 n2 lv) (hB : B ≤ w.heap.size) :
    Calls Try.prog 14 #[.agg #[.string s, .int .i64 kind, .int .i64 p, .int .i64 k, .int .i64 g, .slice A1 n1 c1, .int .i64 col, .slice A2 n2 c2], .int .i64 size, .int .i64 level] w fun e w' => e = .returned (.tuple #[.agg #[.int .i64 (loI (loB (famB s kind p k g col n1 sz n2 lv) (hasB size sz) (inR level 0 ((n2 : Int) - 1)) (layOf kind p k g col size (nth lv level.toNat))) p), .int .i64 (loI (loB (famB s kind p k g col n1 sz n2 lv) (hasB size sz) (inR level 0 ((n2 : Int) - 1)) (layOf kind p k g col size (nth lv level.toNat))) k), .int .i64 (loI (loB (famB s kind p k g col n1 sz n2 lv) (hasB size sz) (inR level 0 ((n2 : Int) - 1)) (layOf kind p k g col size (nth lv level.toNat))) g), .int .i64 (loI (loB (famB s kind p k g col n1 sz n2 lv) (hasB size sz) (inR level 0 ((n2 : Int) - 1)) (layOf kind p k g col size (nth lv level.toNat))) (layDat kind p k col size (nth lv level.toNat))), .int .i64 (loI (loB (famB s kind p k g col n1 sz n2 lv) (hasB size sz) (inR level 0 ((n2 : Int) - 1)) (layOf kind p k g col size (nth lv level.toNat))) (layChk kind p k col size (nth lv level.toNat) : Nat)), .int .i64 (loI (loB (famB s kind p k g col n1 sz n2 lv) (hasB size sz) (inR level 0 ((n2 : Int) - 1)) (layOf kind p k g col size (nth lv level.toNat))) (layCnt kind p k col size : Nat))], .int .i64 (loC (famB s kind p k g col n1 sz n2 lv) (hasB size sz) (inR level 0 ((n2 : Int) - 1)) (layOf kind p k g col size (nth lv level.toNat)))]) ∧ Below w.heap.size w w' := by
  have HI := Lib.hid (fun (w' : World) (hb : Below w.heap.size w w') => IsFamily_any s kind p k g col A1 A2 n1 c1 n2 c2 sz lv w' w.heap.size ((hF.more hB).below hb) hb.size)
  have HS := Lib.hid (fun (w' : World) (hb : Below w.heap.size w w') => hasSize_any s kind p k g col A1 A2 n1 c1 n2 c2 sz lv size w' w.heap.size ((hF.more hB).below hb) hb.size)
  have HV := Lib.hid (fun w => hasLevel_any s kind p k g col A1 A2 n1 c1 n2 c2 sz lv level w hF.l2)
  have hn2 := hF.l2
  cases hfam : famB s kind p k g col n1 sz n2 lv
  · rw [hfam] at HI
    clear hF hfam
    generalize hasB size sz = has at *
    generalize inR level 0 ((n2 : Int) - 1) = lev at *
    generalize layOf kind p k g col size (nth lv level.toNat) = lay at *
    generalize layDat kind p k col size (nth lv level.toNat) = VD at *
    generalize ((layChk kind p k col size (nth lv level.toNat) : Nat) : Int) = VH at *
    generalize ((layCnt kind p k col size : Nat) : Int) = VC at *
    go_enter Try.func14, Try.ntmps14
    go_wp2_with fail
    (go_at_call 19; refine (HI.out _ (by (repeat (first | (with_reducible assumption) | (with_reducible exact Below.refl _ _) | (with_reducible refine below_drewN' ?_ _) | (with_reducible refine Below.drew ?_) | ((with_reducible refine Below.alloc ?_ ?_ _); rotate_left; focus (first | (simp; done) | (simp; omega) | omega)) | ((with_reducible refine Below.setCell ?_ ?_ _); rotate_left; focus (first | (simp; done) | (simp; omega) | omega)))))).mono ?_; rintro e1 w1 ⟨rfl, hb1⟩; obtain ⟨hc1, hf1⟩ := bcell hb1; have hB1 : Below w.heap.size w w1 := (below_then (by first | (go_grown; done) | (repeat (first | (with_reducible assumption) | (with_reducible exact Below.refl _ _) | (with_reducible refine below_drewN' ?_ _) | (with_reducible refine Below.drew ?_) | ((with_reducible refine Below.alloc ?_ ?_ _); rotate_left; focus (first | (simp; done) | (simp; omega) | omega)) | ((with_reducible refine Below.setCell ?_ ?_ _); rotate_left; focus (first | (simp; done) | (simp; omega) | omega))))) (by first | omega | (simp; done) | (simp; omega)) hb1); have hz1a : w.heap.size < w1.heap.size := (by have := hb1.size; first | omega | (simp at this; omega)); have hz1b : w.heap.size + 1 < w1.heap.size := (by have := hb1.size; first | omega | (simp at this; omega)))
    have hh1 := blk_below (blk_alloc (heap_alloc_new w (.cells #[.string s, .int .i64 kind, .int .i64 p, .int .i64 k, .int .i64 g, .slice A1 n1 c1, .int .i64 col, .slice A2 n2 c2] 34)) (by simp)) hb1 (by simp; omega)
    have hr1 : w1.heap[w.heap.size + 1]? = some (.cells #[.int .i64 0, .int .i64 0, .int .i64 0, .int .i64 0, .int .i64 0, .int .i64 0] 30 (0, 0)) := by
      refine blk_below ?_ hb1 (by first | (simp; done) | (simp; omega))
      (repeat (first | (with_reducible exact heap_alloc_new _ _) | (rw [heap_drew1]) | (rw [heap_drewN1]) | (rw [Below.heap_setCell _ _ _ _ (by first | omega | (simp; done) | (simp; omega))]) | (rw [Below.heap_alloc _ _ _ (by first | omega | (simp; done) | (simp; omega))]) | (exact heap_alloc_at (by first | omega | (simp; done) | (simp; omega)))))
    obtain ⟨y0, y1, y2, y3, y4, y5, y6, y7, -⟩ := blk8 hh1
    obtain ⟨z0, z1, z2, z3, z4, z5, zf⟩ := blk6 hr1
    clear hc1 hf1
    go_wp2_with fail
    obtain ⟨s0, s1, s2, s3, s4, s5, -⟩ := blk6 (res6 hr1 (.int .i64 0) (.int .i64 0) (.int .i64 0) (.int .i64 0) (.int .i64 0) (.int .i64 0))
    (try simp only [Exit.inBlock, Exit.then]); refine bodyPost_ret (by simp [results, Try.results14, go_sem, s0, s1, s2, s3, s4, s5]; try rfl) rfl ?_
    exact ⟨by first | rfl | simp [loI, loB, loC], by (repeat (first | (with_reducible assumption) | (with_reducible exact Below.refl _ _) | (with_reducible refine below_drewN' ?_ _) | (with_reducible refine Below.drew ?_) | ((with_reducible refine Below.alloc ?_ ?_ _); rotate_left; focus (first | (simp; done) | (simp; omega) | omega)) | ((with_reducible refine Below.setCell ?_ ?_ _); rotate_left; focus (first | (simp; done) | (simp; omega) | omega))))⟩
  cases hhas : hasB size sz
  · rw [hfam] at HI
    rw [hhas] at HS
    clear hF hfam hhas
    generalize inR level 0 ((n2 : Int) - 1) = lev at *
    generalize layOf kind p k g col size (nth lv level.toNat) = lay at *
    generalize layDat kind p k col size (nth lv level.toNat) = VD at *
    generalize ((layChk kind p k col size (nth lv level.toNat) : Nat) : Int) = VH at *
    generalize ((layCnt kind p k col size : Nat) : Int) = VC at *
    go_enter Try.func14, Try.ntmps14
    go_wp2_with fail
    (go_at_call 19; refine (HI.out _ (by (repeat (first | (with_reducible assumption) | (with_reducible exact Below.refl _ _) | (with_reducible refine below_drewN' ?_ _) | (with_reducible refine Below.drew ?_) | ((with_reducible refine Below.alloc ?_ ?_ _); rotate_left; focus (first | (simp; done) | (simp; omega) | omega)) | ((with_reducible refine Below.setCell ?_ ?_ _); rotate_left; focus (first | (simp; done) | (simp; omega) | omega)))))).mono ?_; rintro e1 w1 ⟨rfl, hb1⟩; obtain ⟨hc1, hf1⟩ := bcell hb1; have hB1 : Below w.heap.size w w1 := (below_then (by first | (go_grown; done) | (repeat (first | (with_reducible assumption) | (with_reducible exact Below.refl _ _) | (with_reducible refine below_drewN' ?_ _) | (with_reducible refine Below.drew ?_) | ((with_reducible refine Below.alloc ?_ ?_ _); rotate_left; focus (first | (simp; done) | (simp; omega) | omega)) | ((with_reducible refine Below.setCell ?_ ?_ _); rotate_left; focus (first | (simp; done) | (simp; omega) | omega))))) (by first | omega | (simp; done) | (simp; omega)) hb1); have hz1a : w.heap.size < w1.heap.size := (by have := hb1.size; first | omega | (simp at this; omega)); have hz1b : w.heap.size + 1 < w1.heap.size := (by have := hb1.size; first | omega | (simp at this; omega)))
    have hh1 := blk_below (blk_alloc (heap_alloc_new w (.cells #[.string s, .int .i64 kind, .int .i64 p, .int .i64 k, .int .i64 g, .slice A1 n1 c1, .int .i64 col, .slice A2 n2 c2] 34)) (by simp)) hb1 (by simp; omega)
    have hr1 : w1.heap[w.heap.size + 1]? = some (.cells #[.int .i64 0, .int .i64 0, .int .i64 0, .int .i64 0, .int .i64 0, .int .i64 0] 30 (0, 0)) := by
      refine blk_below ?_ hb1 (by first | (simp; done) | (simp; omega))
      (repeat (first | (with_reducible exact heap_alloc_new _ _) | (rw [heap_drew1]) | (rw [heap_drewN1]) | (rw [Below.heap_setCell _ _ _ _ (by first | omega | (simp; done) | (simp; omega))]) | (rw [Below.heap_alloc _ _ _ (by first | omega | (simp; done) | (simp; omega))]) | (exact heap_alloc_at (by first | omega | (simp; done) | (simp; omega)))))
    obtain ⟨y0, y1, y2, y3, y4, y5, y6, y7, -⟩ := blk8 hh1
    obtain ⟨z0, z1, z2, z3, z4, z5, zf⟩ := blk6 hr1
    clear hc1 hf1
    go_wp2_with fail
    (go_at_call 51; refine (HS.out _ (by (repeat (first | (with_reducible assumption) | (with_reducible exact Below.refl _ _) | (with_reducible refine below_drewN' ?_ _) | (with_reducible refine Below.drew ?_) | ((with_reducible refine Below.alloc ?_ ?_ _); rotate_left; focus (first | (simp; done) | (simp; omega) | omega)) | ((with_reducible refine Below.setCell ?_ ?_ _); rotate_left; focus (first | (simp; done) | (simp; omega) | omega)))))).mono ?_; rintro e2 w2 ⟨rfl, hb2⟩; obtain ⟨hc2, hf2⟩ := bcell hb2; have hB2 : Below w.heap.size w w2 := (below_then (by first | (go_grown; done) | (repeat (first | (with_reducible assumption) | (with_reducible exact Below.refl _ _) | (with_reducible refine below_drewN' ?_ _) | (with_reducible refine Below.drew ?_) | ((with_reducible refine Below.alloc ?_ ?_ _); rotate_left; focus (first | (simp; done) | (simp; omega) | omega)) | ((with_reducible refine Below.setCell ?_ ?_ _); rotate_left; focus (first | (simp; done) | (simp; omega) | omega))))) (by first | omega | (simp; done) | (simp; omega)) hb2); have hz2a : w.heap.size < w2.heap.size := (by have := hb2.size; first | omega | (simp at this; omega)); have hz2b : w.heap.size + 1 < w2.heap.size := (by have := hb2.size; first | omega | (simp at this; omega)))
    clear y0 y1 y2 y3 y4 y5 y6 y7 z0 z1 z2 z3 z4 z5 zf
    have hh2 := blk_below hh1 hb2 hz1a
    have hr2 := blk_below hr1 hb2 hz1b
    obtain ⟨y0, y1, y2, y3, y4, y5, y6, y7, -⟩ := blk8 hh2
    obtain ⟨z0, z1, z2, z3, z4, z5, zf⟩ := blk6 hr2
    clear hc2 hf2 hh1 hr1
    go_wp2_with fail
    obtain ⟨s0, s1, s2, s3, s4, s5, -⟩ := blk6 (res6 hr2 (.int .i64 0) (.int .i64 0) (.int .i64 0) (.int .i64 0) (.int .i64 0) (.int .i64 0))
    (try simp only [Exit.inBlock, Exit.then]); refine bodyPost_ret (by simp [results, Try.results14, go_sem, s0, s1, s2, s3, s4, s5]; try rfl) rfl ?_
    exact ⟨by first | rfl | simp [loI, loB, loC], by (repeat (first | (with_reducible assumption) | (with_reducible exact Below.refl _ _) | (with_reducible refine below_drewN' ?_ _) | (with_reducible refine Below.drew ?_) | ((with_reducible refine Below.alloc ?_ ?_ _); rotate_left; focus (first | (simp; done) | (simp; omega) | omega)) | ((with_reducible refine Below.setCell ?_ ?_ _); rotate_left; focus (first | (simp; done) | (simp; omega) | omega))))⟩
  cases hlev : inR level 0 ((n2 : Int) - 1)
  · rw [hfam] at HI
    rw [hhas] at HS
    rw [hlev] at HV
    clear hF hfam hhas hlev
    generalize layOf kind p k g col size (nth lv level.toNat) = lay at *
    generalize layDat kind p k col size (nth lv level.toNat) = VD at *
    generalize ((layChk kind p k col size (nth lv level.toNat) : Nat) : Int) = VH at *
    generalize ((layCnt kind p k col size : Nat) : Int) = VC at *
    go_enter Try.func14, Try.ntmps14
    go_wp2_with fail
    (go_at_call 19; refine (HI.out _ (by (repeat (first | (with_reducible assumption) | (with_reducible exact Below.refl _ _) | (with_reducible refine below_drewN' ?_ _) | (with_reducible refine Below.drew ?_) | ((with_reducible refine Below.alloc ?_ ?_ _); rotate_left; focus (first | (simp; done) | (simp; omega) | omega)) | ((with_reducible refine Below.setCell ?_ ?_ _); rotate_left; focus (first | (simp; done) | (simp; omega) | omega)))))).mono ?_; rintro e1 w1 ⟨rfl, hb1⟩; obtain ⟨hc1, hf1⟩ := bcell hb1; have hB1 : Below w.heap.size w w1 := (below_then (by first | (go_grown; done) | (repeat (first | (with_reducible assumption) | (with_reducible exact Below.refl _ _) | (with_reducible refine below_drewN' ?_ _) | (with_reducible refine Below.drew ?_) | ((with_reducible refine Below.alloc ?_ ?_ _); rotate_left; focus (first | (simp; done) | (simp; omega) | omega)) | ((with_reducible refine Below.setCell ?_ ?_ _); rotate_left; focus (first | (simp; done) | (simp; omega) | omega))))) (by first | omega | (simp; done) | (simp; omega)) hb1); have hz1a : w.heap.size < w1.heap.size := (by have := hb1.size; first | omega | (simp at this; omega)); have hz1b : w.heap.size + 1 < w1.heap.size := (by have := hb1.size; first | omega | (simp at this; omega)))
    have hh1 := blk_below (blk_alloc (heap_alloc_new w (.cells #[.string s, .int .i64 kind, .int .i64 p, .int .i64 k, .int .i64 g, .slice A1 n1 c1, .int .i64 col, .slice A2 n2 c2] 34)) (by simp)) hb1 (by simp; omega)
    have hr1 : w1.heap[w.heap.size + 1]? = some (.cells #[.int .i64 0, .int .i64 0, .int .i64 0, .int .i64 0, .int .i64 0, .int .i64 0] 30 (0, 0)) := by
      refine blk_below ?_ hb1 (by first | (simp; done) | (simp; omega))
      (repeat (first | (with_reducible exact heap_alloc_new _ _) | (rw [heap_drew1]) | (rw [heap_drewN1]) | (rw [Below.heap_setCell _ _ _ _ (by first | omega | (simp; done) | (simp; omega))]) | (rw [Below.heap_alloc _ _ _ (by first | omega | (simp; done) | (simp; omega))]) | (exact heap_alloc_at (by first | omega | (simp; done) | (simp; omega)))))
    obtain ⟨y0, y1, y2, y3, y4, y5, y6, y7, -⟩ := blk8 hh1
    obtain ⟨z0, z1, z2, z3, z4, z5, zf⟩ := blk6 hr1
    clear hc1 hf1
    go_wp2_with fail
    (go_at_call 51; refine (HS.out _ (by (repeat (first | (with_reducible assumption) | (with_reducible exact Below.refl _ _) | (with_reducible refine below_drewN' ?_ _) | (with_reducible refine Below.drew ?_) | ((with_reducible refine Below.alloc ?_ ?_ _); rotate_left; focus (first | (simp; done) | (simp; omega) | omega)) | ((with_reducible refine Below.setCell ?_ ?_ _); rotate_left; focus (first | (simp; done) | (simp; omega) | omega)))))).mono ?_; rintro e2 w2 ⟨rfl, hb2⟩; obtain ⟨hc2, hf2⟩ := bcell hb2; have hB2 : Below w.heap.size w w2 := (below_then (by first | (go_grown; done) | (repeat (first | (with_reducible assumption) | (with_reducible exact Below.refl _ _) | (with_reducible refine below_drewN' ?_ _) | (with_reducible refine Below.drew ?_) | ((with_reducible refine Below.alloc ?_ ?_ _); rotate_left; focus (first | (simp; done) | (simp; omega) | omega)) | ((with_reducible refine Below.setCell ?_ ?_ _); rotate_left; focus (first | (simp; done) | (simp; omega) | omega))))) (by first | omega | (simp; done) | (simp; omega)) hb2); have hz2a : w.heap.size < w2.heap.size := (by have := hb2.size; first | omega | (simp at this; omega)); have hz2b : w.heap.size + 1 < w2.heap.size := (by have := hb2.size; first | omega | (simp at this; omega)))
    clear y0 y1 y2 y3 y4 y5 y6 y7 z0 z1 z2 z3 z4 z5 zf
    have hh2 := blk_below hh1 hb2 hz1a
    have hr2 := blk_below hr1 hb2 hz1b
    obtain ⟨y0, y1, y2, y3, y4, y5, y6, y7, -⟩ := blk8 hh2
    obtain ⟨z0, z1, z2, z3, z4, z5, zf⟩ := blk6 hr2
    clear hc2 hf2 hh1 hr1
    go_wp2_with fail
    (go_at_call 52; with_reducible refine (HV.out _).mono ?_; rintro e3 w3 ⟨rfl, hb3⟩; obtain ⟨hc3, hf3⟩ := bcell hb3; have hB3 : Below w.heap.size w w3 := (below_then (by first | (go_grown; done) | (repeat (first | (with_reducible assumption) | (with_reducible exact Below.refl _ _) | (with_reducible refine below_drewN' ?_ _) | (with_reducible refine Below.drew ?_) | ((with_reducible refine Below.alloc ?_ ?_ _); rotate_left; focus (first | (simp; done) | (simp; omega) | omega)) | ((with_reducible refine Below.setCell ?_ ?_ _); rotate_left; focus (first | (simp; done) | (simp; omega) | omega))))) (by first | omega | (simp; done) | (simp; omega)) hb3); have hz3a : w.heap.size < w3.heap.size := (by have := hb3.size; first | omega | (simp at this; omega)); have hz3b : w.heap.size + 1 < w3.heap.size := (by have := hb3.size; first | omega | (simp at this; omega)))
    clear y0 y1 y2 y3 y4 y5 y6 y7 z0 z1 z2 z3 z4 z5 zf
    have hh3 := blk_below hh2 hb3 hz2a
    have hr3 := blk_below hr2 hb3 hz2b
    obtain ⟨y0, y1, y2, y3, y4, y5, y6, y7, -⟩ := blk8 hh3
    obtain ⟨z0, z1, z2, z3, z4, z5, zf⟩ := blk6 hr3
    clear hc3 hf3 hh2 hr2
    go_wp2_with fail
    obtain ⟨s0, s1, s2, s3, s4, s5, -⟩ := blk6 (res6 hr3 (.int .i64 0) (.int .i64 0) (.int .i64 0) (.int .i64 0) (.int .i64 0) (.int .i64 0))
    (try simp only [Exit.inBlock, Exit.then]); refine bodyPost_ret (by simp [results, Try.results14, go_sem, s0, s1, s2, s3, s4, s5]; try rfl) rfl ?_
    exact ⟨by first | rfl | simp [loI, loB, loC], by (repeat (first | (with_reducible assumption) | (with_reducible exact Below.refl _ _) | (with_reducible refine below_drewN' ?_ _) | (with_reducible refine Below.drew ?_) | ((with_reducible refine Below.alloc ?_ ?_ _); rotate_left; focus (first | (simp; done) | (simp; omega) | omega)) | ((with_reducible refine Below.setCell ?_ ?_ _); rotate_left; focus (first | (simp; done) | (simp; omega) | omega))))⟩
  · rw [hfam] at HI
    rw [hhas] at HS
    rw [hlev] at HV
    obtain ⟨j, rfl, hj⟩ := lev_facts hlev
    have hll := fam_lev hfam (j := j) (by have := hF.h2.len; omega)
    have HY := Lib.hid (fun (w' : World) (hb : Below w.heap.size w w') => layout_any s kind p k g col A1 A2 n1 c1 n2 c2 sz lv size j w' w.heap.size (fam_size hfam hhas) ((hF.h2.more hB).below hb) hb.size hj hll.1 hll.2)
    rw [Int.toNat_natCast]
    have HL := Lib.hid (fun w => IsLayout_any p k g (layDat kind p k col size (nth lv j)) (layChk kind p k col size (nth lv j) : Nat) (layCnt kind p k col size : Nat) w)
    cases hlay : layOf kind p k g col size (nth lv j)
    · unfold layOf at hlay
      rw [hlay] at HL
      clear hF hfam hhas hlev hlay hll
      generalize layDat kind p k col size (nth lv j) = VD at *
      generalize ((layChk kind p k col size (nth lv j) : Nat) : Int) = VH at *
      generalize ((layCnt kind p k col size : Nat) : Int) = VC at *
      go_enter Try.func14, Try.ntmps14
      go_wp2_with fail
      (go_at_call 19; refine (HI.out _ (by (repeat (first | (with_reducible assumption) | (with_reducible exact Below.refl _ _) | (with_reducible refine below_drewN' ?_ _) | (with_reducible refine Below.drew ?_) | ((with_reducible refine Below.alloc ?_ ?_ _); rotate_left; focus (first | (simp; done) | (simp; omega) | omega)) | ((with_reducible refine Below.setCell ?_ ?_ _); rotate_left; focus (first | (simp; done) | (simp; omega) | omega)))))).mono ?_; rintro e1 w1 ⟨rfl, hb1⟩; obtain ⟨hc1, hf1⟩ := bcell hb1; have hB1 : Below w.heap.size w w1 := (below_then (by first | (go_grown; done) | (repeat (first | (with_reducible assumption) | (with_reducible exact Below.refl _ _) | (with_reducible refine below_drewN' ?_ _) | (with_reducible refine Below.drew ?_) | ((with_reducible refine Below.alloc ?_ ?_ _); rotate_left; focus (first | (simp; done) | (simp; omega) | omega)) | ((with_reducible refine Below.setCell ?_ ?_ _); rotate_left; focus (first | (simp; done) | (simp; omega) | omega))))) (by first | omega | (simp; done) | (simp; omega)) hb1); have hz1a : w.heap.size < w1.heap.size := (by have := hb1.size; first | omega | (simp at this; omega)); have hz1b : w.heap.size + 1 < w1.heap.size := (by have := hb1.size; first | omega | (simp at this; omega)))
      have hh1 := blk_below (blk_alloc (heap_alloc_new w (.cells #[.string s, .int .i64 kind, .int .i64 p, .int .i64 k, .int .i64 g, .slice A1 n1 c1, .int .i64 col, .slice A2 n2 c2] 34)) (by simp)) hb1 (by simp; omega)
      have hr1 : w1.heap[w.heap.size + 1]? = some (.cells #[.int .i64 0, .int .i64 0, .int .i64 0, .int .i64 0, .int .i64 0, .int .i64 0] 30 (0, 0)) := by
        refine blk_below ?_ hb1 (by first | (simp; done) | (simp; omega))
        (repeat (first | (with_reducible exact heap_alloc_new _ _) | (rw [heap_drew1]) | (rw [heap_drewN1]) | (rw [Below.heap_setCell _ _ _ _ (by first | omega | (simp; done) | (simp; omega))]) | (rw [Below.heap_alloc _ _ _ (by first | omega | (simp; done) | (simp; omega))]) | (exact heap_alloc_at (by first | omega | (simp; done) | (simp; omega)))))
      obtain ⟨y0, y1, y2, y3, y4, y5, y6, y7, -⟩ := blk8 hh1
      obtain ⟨z0, z1, z2, z3, z4, z5, zf⟩ := blk6 hr1
      clear hc1 hf1
      go_wp2_with fail
      (go_at_call 51; refine (HS.out _ (by (repeat (first | (with_reducible assumption) | (with_reducible exact Below.refl _ _) | (with_reducible refine below_drewN' ?_ _) | (with_reducible refine Below.drew ?_) | ((with_reducible refine Below.alloc ?_ ?_ _); rotate_left; focus (first | (simp; done) | (simp; omega) | omega)) | ((with_reducible refine Below.setCell ?_ ?_ _); rotate_left; focus (first | (simp; done) | (simp; omega) | omega)))))).mono ?_; rintro e2 w2 ⟨rfl, hb2⟩; obtain ⟨hc2, hf2⟩ := bcell hb2; have hB2 : Below w.heap.size w w2 := (below_then (by first | (go_grown; done) | (repeat (first | (with_reducible assumption) | (with_reducible exact Below.refl _ _) | (with_reducible refine below_drewN' ?_ _) | (with_reducible refine Below.drew ?_) | ((with_reducible refine Below.alloc ?_ ?_ _); rotate_left; focus (first | (simp; done) | (simp; omega) | omega)) | ((with_reducible refine Below.setCell ?_ ?_ _); rotate_left; focus (first | (simp; done) | (simp; omega) | omega))))) (by first | omega | (simp; done) | (simp; omega)) hb2); have hz2a : w.heap.size < w2.heap.size := (by have := hb2.size; first | omega | (simp at this; omega)); have hz2b : w.heap.size + 1 < w2.heap.size := (by have := hb2.size; first | omega | (simp at this; omega)))
      clear y0 y1 y2 y3 y4 y5 y6 y7 z0 z1 z2 z3 z4 z5 zf
      have hh2 := blk_below hh1 hb2 hz1a
      have hr2 := blk_below hr1 hb2 hz1b
      obtain ⟨y0, y1, y2, y3, y4, y5, y6, y7, -⟩ := blk8 hh2
      obtain ⟨z0, z1, z2, z3, z4, z5, zf⟩ := blk6 hr2
      clear hc2 hf2 hh1 hr1
      go_wp2_with fail
      (go_at_call 52; with_reducible refine (HV.out _).mono ?_; rintro e3 w3 ⟨rfl, hb3⟩; obtain ⟨hc3, hf3⟩ := bcell hb3; have hB3 : Below w.heap.size w w3 := (below_then (by first | (go_grown; done) | (repeat (first | (with_reducible assumption) | (with_reducible exact Below.refl _ _) | (with_reducible refine below_drewN' ?_ _) | (with_reducible refine Below.drew ?_) | ((with_reducible refine Below.alloc ?_ ?_ _); rotate_left; focus (first | (simp; done) | (simp; omega) | omega)) | ((with_reducible refine Below.setCell ?_ ?_ _); rotate_left; focus (first | (simp; done) | (simp; omega) | omega))))) (by first | omega | (simp; done) | (simp; omega)) hb3); have hz3a : w.heap.size < w3.heap.size := (by have := hb3.size; first | omega | (simp at this; omega)); have hz3b : w.heap.size + 1 < w3.heap.size := (by have := hb3.size; first | omega | (simp at this; omega)))
      clear y0 y1 y2 y3 y4 y5 y6 y7 z0 z1 z2 z3 z4 z5 zf
      have hh3 := blk_below hh2 hb3 hz2a
      have hr3 := blk_below hr2 hb3 hz2b
      obtain ⟨y0, y1, y2, y3, y4, y5, y6, y7, -⟩ := blk8 hh3
      obtain ⟨z0, z1, z2, z3, z4, z5, zf⟩ := blk6 hr3
      clear hc3 hf3 hh2 hr2
      go_wp2_with fail
      (go_at_call 53; refine (HY.out _ (by (repeat (first | (with_reducible assumption) | (with_reducible exact Below.refl _ _) | (with_reducible refine below_drewN' ?_ _) | (with_reducible refine Below.drew ?_) | ((with_reducible refine Below.alloc ?_ ?_ _); rotate_left; focus (first | (simp; done) | (simp; omega) | omega)) | ((with_reducible refine Below.setCell ?_ ?_ _); rotate_left; focus (first | (simp; done) | (simp; omega) | omega)))))).mono ?_; rintro e4 w4 ⟨rfl, hb4⟩; obtain ⟨hc4, hf4⟩ := bcell hb4; have hB4 : Below w.heap.size w w4 := (below_then (by first | (go_grown; done) | (repeat (first | (with_reducible assumption) | (with_reducible exact Below.refl _ _) | (with_reducible refine below_drewN' ?_ _) | (with_reducible refine Below.drew ?_) | ((with_reducible refine Below.alloc ?_ ?_ _); rotate_left; focus (first | (simp; done) | (simp; omega) | omega)) | ((with_reducible refine Below.setCell ?_ ?_ _); rotate_left; focus (first | (simp; done) | (simp; omega) | omega))))) (by first | omega | (simp; done) | (simp; omega)) hb4); have hz4a : w.heap.size < w4.heap.size := (by have := hb4.size; first | omega | (simp at this; omega)); have hz4b : w.heap.size + 1 < w4.heap.size := (by have := hb4.size; first | omega | (simp at this; omega)))
      clear y0 y1 y2 y3 y4 y5 y6 y7 z0 z1 z2 z3 z4 z5 zf
      have hh4 := blk_below hh3 hb4 hz3a
      have hr4 := blk_below hr3 hb4 hz3b
      obtain ⟨y0, y1, y2, y3, y4, y5, y6, y7, -⟩ := blk8 hh4
      obtain ⟨z0, z1, z2, z3, z4, z5, zf⟩ := blk6 hr4
      clear hc4 hf4 hh3 hr3
      go_wp2_with fail
      (go_at_call 25; with_reducible refine (HL.out _).mono ?_; rintro e5 w5 ⟨rfl, hb5⟩; obtain ⟨hc5, hf5⟩ := bcell hb5; have hB5 : Below w.heap.size w w5 := (below_then (by first | (go_grown; done) | (repeat (first | (with_reducible assumption) | (with_reducible exact Below.refl _ _) | (with_reducible refine below_drewN' ?_ _) | (with_reducible refine Below.drew ?_) | ((with_reducible refine Below.alloc ?_ ?_ _); rotate_left; focus (first | (simp; done) | (simp; omega) | omega)) | ((with_reducible refine Below.setCell ?_ ?_ _); rotate_left; focus (first | (simp; done) | (simp; omega) | omega))))) (by first | omega | (simp; done) | (simp; omega)) hb5); have hz5a : w.heap.size < w5.heap.size := (by have := hb5.size; first | omega | (simp at this; omega)); have hz5b : w.heap.size + 1 < w5.heap.size := (by have := hb5.size; first | omega | (simp at this; omega)); have hz5c : w4.heap.size < w5.heap.size := (by have := hb5.size; first | omega | (simp at this; omega)))
      have hh5 := blk_below (blk_alloc hh4 hz4a) hb5 (by first | (simp; done) | (simp; omega))
      have hr5 := blk_below (blk_alloc hr4 hz4b) hb5 (by first | (simp; done) | (simp; omega))
      have hl5 : w5.heap[w4.heap.size]? = some (.cells #[.int .i64 p, .int .i64 k, .int .i64 g, .int .i64 VD, .int .i64 VH, .int .i64 VC] 30 (0, 0)) := blk_below (heap_alloc_new _ _) hb5 (by simp)
      clear y0 y1 y2 y3 y4 y5 y6 y7 z0 z1 z2 z3 z4 z5 zf
      obtain ⟨z0, z1, z2, z3, z4, z5, zf⟩ := blk6 hr5
      obtain ⟨l0, l1, l2, l3, l4, l5, -⟩ := blk6 hl5
      clear hc5 hf5 hh4 hh5 hr4 hl5
      go_wp2_with fail
      obtain ⟨s0, s1, s2, s3, s4, s5, -⟩ := blk6 (res6 hr5 (.int .i64 0) (.int .i64 0) (.int .i64 0) (.int .i64 0) (.int .i64 0) (.int .i64 0))
      (try simp only [Exit.inBlock, Exit.then]); refine bodyPost_ret (by simp [results, Try.results14, go_sem, s0, s1, s2, s3, s4, s5]; try rfl) rfl ?_
      exact ⟨by first | rfl | simp [loI, loB, loC], by (repeat (first | (with_reducible assumption) | (with_reducible exact Below.refl _ _) | (with_reducible refine below_drewN' ?_ _) | (with_reducible refine Below.drew ?_) | ((with_reducible refine Below.alloc ?_ ?_ _); rotate_left; focus (first | (simp; done) | (simp; omega) | omega)) | ((with_reducible refine Below.setCell ?_ ?_ _); rotate_left; focus (first | (simp; done) | (simp; omega) | omega))))⟩
    · unfold layOf at hlay
      rw [hlay] at HL
      clear hF hfam hhas hlev hlay hll
      generalize layDat kind p k col size (nth lv j) = VD at *
      generalize ((layChk kind p k col size (nth lv j) : Nat) : Int) = VH at *
      generalize ((layCnt kind p k col size : Nat) : Int) = VC at *
      go_enter Try.func14, Try.ntmps14
      go_wp2_with fail
      (go_at_call 19; refine (HI.out _ (by (repeat (first | (with_reducible assumption) | (with_reducible exact Below.refl _ _) | (with_reducible refine below_drewN' ?_ _) | (with_reducible refine Below.drew ?_) | ((with_reducible refine Below.alloc ?_ ?_ _); rotate_left; focus (first | (simp; done) | (simp; omega) | omega)) | ((with_reducible refine Below.setCell ?_ ?_ _); rotate_left; focus (first | (simp; done) | (simp; omega) | omega)))))).mono ?_; rintro e1 w1 ⟨rfl, hb1⟩; obtain ⟨hc1, hf1⟩ := bcell hb1; have hB1 : Below w.heap.size w w1 := (below_then (by first | (go_grown; done) | (repeat (first | (with_reducible assumption) | (with_reducible exact Below.refl _ _) | (with_reducible refine below_drewN' ?_ _) | (with_reducible refine Below.drew ?_) | ((with_reducible refine Below.alloc ?_ ?_ _); rotate_left; focus (first | (simp; done) | (simp; omega) | omega)) | ((with_reducible refine Below.setCell ?_ ?_ _); rotate_left; focus (first | (simp; done) | (simp; omega) | omega))))) (by first | omega | (simp; done) | (simp; omega)) hb1); have hz1a : w.heap.size < w1.heap.size := (by have := hb1.size; first | omega | (simp at this; omega)); have hz1b : w.heap.size + 1 < w1.heap.size := (by have := hb1.size; first | omega | (simp at this; omega)))
      have hh1 := blk_below (blk_alloc (heap_alloc_new w (.cells #[.string s, .int .i64 kind, .int .i64 p, .int .i64 k, .int .i64 g, .slice A1 n1 c1, .int .i64 col, .slice A2 n2 c2] 34)) (by simp)) hb1 (by simp; omega)
      have hr1 : w1.heap[w.heap.size + 1]? = some (.cells #[.int .i64 0, .int .i64 0, .int .i64 0, .int .i64 0, .int .i64 0, .int .i64 0] 30 (0, 0)) := by
        refine blk_below ?_ hb1 (by first | (simp; done) | (simp; omega))
        (repeat (first | (with_reducible exact heap_alloc_new _ _) | (rw [heap_drew1]) | (rw [heap_drewN1]) | (rw [Below.heap_setCell _ _ _ _ (by first | omega | (simp; done) | (simp; omega))]) | (rw [Below.heap_alloc _ _ _ (by first | omega | (simp; done) | (simp; omega))]) | (exact heap_alloc_at (by first | omega | (simp; done) | (simp; omega)))))
      obtain ⟨y0, y1, y2, y3, y4, y5, y6, y7, -⟩ := blk8 hh1
      obtain ⟨z0, z1, z2, z3, z4, z5, zf⟩ := blk6 hr1
      clear hc1 hf1
      go_wp2_with fail
      (go_at_call 51; refine (HS.out _ (by (repeat (first | (with_reducible assumption) | (with_reducible exact Below.refl _ _) | (with_reducible refine below_drewN' ?_ _) | (with_reducible refine Below.drew ?_) | ((with_reducible refine Below.alloc ?_ ?_ _); rotate_left; focus (first | (simp; done) | (simp; omega) | omega)) | ((with_reducible refine Below.setCell ?_ ?_ _); rotate_left; focus (first | (simp; done) | (simp; omega) | omega)))))).mono ?_; rintro e2 w2 ⟨rfl, hb2⟩; obtain ⟨hc2, hf2⟩ := bcell hb2; have hB2 : Below w.heap.size w w2 := (below_then (by first | (go_grown; done) | (repeat (first | (with_reducible assumption) | (with_reducible exact Below.refl _ _) | (with_reducible refine below_drewN' ?_ _) | (with_reducible refine Below.drew ?_) | ((with_reducible refine Below.alloc ?_ ?_ _); rotate_left; focus (first | (simp; done) | (simp; omega) | omega)) | ((with_reducible refine Below.setCell ?_ ?_ _); rotate_left; focus (first | (simp; done) | (simp; omega) | omega))))) (by first | omega | (simp; done) | (simp; omega)) hb2); have hz2a : w.heap.size < w2.heap.size := (by have := hb2.size; first | omega | (simp at this; omega)); have hz2b : w.heap.size + 1 < w2.heap.size := (by have := hb2.size; first | omega | (simp at this; omega)))
      clear y0 y1 y2 y3 y4 y5 y6 y7 z0 z1 z2 z3 z4 z5 zf
      have hh2 := blk_below hh1 hb2 hz1a
      have hr2 := blk_below hr1 hb2 hz1b
      obtain ⟨y0, y1, y2, y3, y4, y5, y6, y7, -⟩ := blk8 hh2
      obtain ⟨z0, z1, z2, z3, z4, z5, zf⟩ := blk6 hr2
      clear hc2 hf2 hh1 hr1
      go_wp2_with fail
      (go_at_call 52; with_reducible refine (HV.out _).mono ?_; rintro e3 w3 ⟨rfl, hb3⟩; obtain ⟨hc3, hf3⟩ := bcell hb3; have hB3 : Below w.heap.size w w3 := (below_then (by first | (go_grown; done) | (repeat (first | (with_reducible assumption) | (with_reducible exact Below.refl _ _) | (with_reducible refine below_drewN' ?_ _) | (with_reducible refine Below.drew ?_) | ((with_reducible refine Below.alloc ?_ ?_ _); rotate_left; focus (first | (simp; done) | (simp; omega) | omega)) | ((with_reducible refine Below.setCell ?_ ?_ _); rotate_left; focus (first | (simp; done) | (simp; omega) | omega))))) (by first | omega | (simp; done) | (simp; omega)) hb3); have hz3a : w.heap.size < w3.heap.size := (by have := hb3.size; first | omega | (simp at this; omega)); have hz3b : w.heap.size + 1 < w3.heap.size := (by have := hb3.size; first | omega | (simp at this; omega)))
      clear y0 y1 y2 y3 y4 y5 y6 y7 z0 z1 z2 z3 z4 z5 zf
      have hh3 := blk_below hh2 hb3 hz2a
      have hr3 := blk_below hr2 hb3 hz2b
      obtain ⟨y0, y1, y2, y3, y4, y5, y6, y7, -⟩ := blk8 hh3
      obtain ⟨z0, z1, z2, z3, z4, z5, zf⟩ := blk6 hr3
      clear hc3 hf3 hh2 hr2
      go_wp2_with fail
      (go_at_call 53; refine (HY.out _ (by (repeat (first | (with_reducible assumption) | (with_reducible exact Below.refl _ _) | (with_reducible refine below_drewN' ?_ _) | (with_reducible refine Below.drew ?_) | ((with_reducible refine Below.alloc ?_ ?_ _); rotate_left; focus (first | (simp; done) | (simp; omega) | omega)) | ((with_reducible refine Below.setCell ?_ ?_ _); rotate_left; focus (first | (simp; done) | (simp; omega) | omega)))))).mono ?_; rintro e4 w4 ⟨rfl, hb4⟩; obtain ⟨hc4, hf4⟩ := bcell hb4; have hB4 : Below w.heap.size w w4 := (below_then (by first | (go_grown; done) | (repeat (first | (with_reducible assumption) | (with_reducible exact Below.refl _ _) | (with_reducible refine below_drewN' ?_ _) | (with_reducible refine Below.drew ?_) | ((with_reducible refine Below.alloc ?_ ?_ _); rotate_left; focus (first | (simp; done) | (simp; omega) | omega)) | ((with_reducible refine Below.setCell ?_ ?_ _); rotate_left; focus (first | (simp; done) | (simp; omega) | omega))))) (by first | omega | (simp; done) | (simp; omega)) hb4); have hz4a : w.heap.size < w4.heap.size := (by have := hb4.size; first | omega | (simp at this; omega)); have hz4b : w.heap.size + 1 < w4.heap.size := (by have := hb4.size; first | omega | (simp at this; omega)))
      clear y0 y1 y2 y3 y4 y5 y6 y7 z0 z1 z2 z3 z4 z5 zf
      have hh4 := blk_below hh3 hb4 hz3a
      have hr4 := blk_below hr3 hb4 hz3b
      obtain ⟨y0, y1, y2, y3, y4, y5, y6, y7, -⟩ := blk8 hh4
      obtain ⟨z0, z1, z2, z3, z4, z5, zf⟩ := blk6 hr4
      clear hc4 hf4 hh3 hr3
      go_wp2_with fail
      (go_at_call 25; with_reducible refine (HL.out _).mono ?_; rintro e5 w5 ⟨rfl, hb5⟩; obtain ⟨hc5, hf5⟩ := bcell hb5; have hB5 : Below w.heap.size w w5 := (below_then (by first | (go_grown; done) | (repeat (first | (with_reducible assumption) | (with_reducible exact Below.refl _ _) | (with_reducible refine below_drewN' ?_ _) | (with_reducible refine Below.drew ?_) | ((with_reducible refine Below.alloc ?_ ?_ _); rotate_left; focus (first | (simp; done) | (simp; omega) | omega)) | ((with_reducible refine Below.setCell ?_ ?_ _); rotate_left; focus (first | (simp; done) | (simp; omega) | omega))))) (by first | omega | (simp; done) | (simp; omega)) hb5); have hz5a : w.heap.size < w5.heap.size := (by have := hb5.size; first | omega | (simp at this; omega)); have hz5b : w.heap.size + 1 < w5.heap.size := (by have := hb5.size; first | omega | (simp at this; omega)); have hz5c : w4.heap.size < w5.heap.size := (by have := hb5.size; first | omega | (simp at this; omega)))
      have hh5 := blk_below (blk_alloc hh4 hz4a) hb5 (by first | (simp; done) | (simp; omega))
      have hr5 := blk_below (blk_alloc hr4 hz4b) hb5 (by first | (simp; done) | (simp; omega))
      have hl5 : w5.heap[w4.heap.size]? = some (.cells #[.int .i64 p, .int .i64 k, .int .i64 g, .int .i64 VD, .int .i64 VH, .int .i64 VC] 30 (0, 0)) := blk_below (heap_alloc_new _ _) hb5 (by simp)
      clear y0 y1 y2 y3 y4 y5 y6 y7 z0 z1 z2 z3 z4 z5 zf
      obtain ⟨z0, z1, z2, z3, z4, z5, zf⟩ := blk6 hr5
      obtain ⟨l0, l1, l2, l3, l4, l5, -⟩ := blk6 hl5
      clear hc5 hf5 hh4 hh5 hr4 hl5
      go_wp2_with fail
      obtain ⟨s0, s1, s2, s3, s4, s5, -⟩ := blk6 (res6 hr5 (.int .i64 p) (.int .i64 k) (.int .i64 g) (.int .i64 VD) (.int .i64 VH) (.int .i64 VC))
      (try simp only [Exit.inBlock, Exit.then]); refine bodyPost_ret (by simp [results, Try.results14, go_sem, s0, s1, s2, s3, s4, s5]; try rfl) rfl ?_
      exact ⟨by first | rfl | simp [loI, loB, loC], by (repeat (first | (with_reducible assumption) | (with_reducible exact Below.refl _ _) | (with_reducible refine below_drewN' ?_ _) | (with_reducible refine Below.drew ?_) | ((with_reducible refine Below.alloc ?_ ?_ _); rotate_left; focus (first | (simp; done) | (simp; omega) | omega)) | ((with_reducible refine Below.setCell ?_ ?_ _); rotate_left; focus (first | (simp; done) | (simp; omega) | omega))))⟩

set_option maxHeartbeats 8000000 in
theorem sLayoutOf_any (s : ByteArray) (kind p k g col : Int) (A1 A2 : Option Addr) (n1 c1 n2 c2 : Nat) (sz lv : List Int) (size level : Int) (w : World) (B : Nat) (hF : FamOk w B s A1 n1 sz A2 n2 lv) (hB : B ≤ w.heap.size) :
    Calls Try.prog 12 #[.agg #[.string s, .int .i64 kind, .int .i64 p, .int .i64 k, .int .i64 g, .slice A1 n1 c1, .int .i64 col, .slice A2 n2 c2], .int .i64 size, .int .i64 level] w fun e w' => e = .returned (.tuple #[.agg #[.int .i64 (loI (loB (famB s kind p k g col n1 sz n2 lv) (hasB size sz) (inR level 0 ((n2 : Int) - 1)) (layOf kind p k g col size (nth lv level.toNat))) p), .int .i64 (loI (loB (famB s kind p k g col n1 sz n2 lv) (hasB size sz) (inR level 0 ((n2 : Int) - 1)) (layOf kind p k g col size (nth lv level.toNat))) k), .int .i64 (loI (loB (famB s kind p k g col n1 sz n2 lv) (hasB size sz) (inR level 0 ((n2 : Int) - 1)) (layOf kind p k g col size (nth lv level.toNat))) g), .int .i64 (loI (loB (famB s kind p k g col n1 sz n2 lv) (hasB size sz) (inR level 0 ((n2 : Int) - 1)) (layOf kind p k g col size (nth lv level.toNat))) (layDat kind p k col size (nth lv level.toNat))), .int .i64 (loI (loB (famB s kind p k g col n1 sz n2 lv) (hasB size sz) (inR level 0 ((n2 : Int) - 1)) (layOf kind p k g col size (nth lv level.toNat))) (layChk kind p k col size (nth lv level.toNat) : Nat)), .int .i64 (loI (loB (famB s kind p k g col n1 sz n2 lv) (hasB size sz) (inR level 0 ((n2 : Int) - 1)) (layOf kind p k g col size (nth lv level.toNat))) (layCnt kind p k col size : Nat))], .int .i64 (loC (famB s kind p k g col n1 sz n2 lv) (hasB size sz) (inR level 0 ((n2 : Int) - 1)) (layOf kind p k g col size (nth lv level.toNat)))]) ∧ Below w.heap.size w w' := by
  have HC := Lib.hid (fun (w' : World) (hb : Below w.heap.size w w') => l13Code_any s kind p k g col A1 A2 n1 c1 n2 c2 sz lv size w' w.heap.size ((hF.more hB).below hb) hb.size)
  have HV := Lib.hid (fun w => l01In_any level 0 ((n2 : Int) - 1) w)
  have hn2 := hF.l2
  cases hfam : famB s kind p k g col n1 sz n2 lv
  · rw [hfam] at HC; rw [show ecC false (hasB size sz) = 1 by rfl] at HC
    clear hF hfam
    generalize hasB size sz = has at *
    generalize inR level 0 ((n2 : Int) - 1) = lev at *
    generalize layOf kind p k g col size (nth lv level.toNat) = lay at *
    generalize layDat kind p k col size (nth lv level.toNat) = VD at *
    generalize ((layChk kind p k col size (nth lv level.toNat) : Nat) : Int) = VH at *
    generalize ((layCnt kind p k col size : Nat) : Int) = VC at *
    go_enter Try.func12, Try.ntmps12
    go_wp2_with fail
    (go_at_call 46; refine (HC.out _ (by (repeat (first | (with_reducible assumption) | (with_reducible exact Below.refl _ _) | (with_reducible refine below_drewN' ?_ _) | (with_reducible refine Below.drew ?_) | ((with_reducible refine Below.alloc ?_ ?_ _); rotate_left; focus (first | (simp; done) | (simp; omega) | omega)) | ((with_reducible refine Below.setCell ?_ ?_ _); rotate_left; focus (first | (simp; done) | (simp; omega) | omega)))))).mono ?_; rintro e1 w1 ⟨rfl, hb1⟩; obtain ⟨hc1, hf1⟩ := bcell hb1; have hB1 : Below w.heap.size w w1 := (below_then (by first | (go_grown; done) | (repeat (first | (with_reducible assumption) | (with_reducible exact Below.refl _ _) | (with_reducible refine below_drewN' ?_ _) | (with_reducible refine Below.drew ?_) | ((with_reducible refine Below.alloc ?_ ?_ _); rotate_left; focus (first | (simp; done) | (simp; omega) | omega)) | ((with_reducible refine Below.setCell ?_ ?_ _); rotate_left; focus (first | (simp; done) | (simp; omega) | omega))))) (by first | omega | (simp; done) | (simp; omega)) hb1); have hz1a : w.heap.size < w1.heap.size := (by have := hb1.size; first | omega | (simp at this; omega)); have hz1b : w.heap.size + 1 < w1.heap.size := (by have := hb1.size; first | omega | (simp at this; omega)))
    have hh1 := blk_below (blk_alloc (heap_alloc_new w (.cells #[.string s, .int .i64 kind, .int .i64 p, .int .i64 k, .int .i64 g, .slice A1 n1 c1, .int .i64 col, .slice A2 n2 c2] 34)) (by simp)) hb1 (by simp; omega)
    have hr1 : w1.heap[w.heap.size + 1]? = some (.cells #[.int .i64 0, .int .i64 0, .int .i64 0, .int .i64 0, .int .i64 0, .int .i64 0] 30 (0, 0)) := by
      refine blk_below ?_ hb1 (by first | (simp; done) | (simp; omega))
      (repeat (first | (with_reducible exact heap_alloc_new _ _) | (rw [heap_drew1]) | (rw [heap_drewN1]) | (rw [Below.heap_setCell _ _ _ _ (by first | omega | (simp; done) | (simp; omega))]) | (rw [Below.heap_alloc _ _ _ (by first | omega | (simp; done) | (simp; omega))]) | (exact heap_alloc_at (by first | omega | (simp; done) | (simp; omega)))))
    obtain ⟨y0, y1, y2, y3, y4, y5, y6, y7, -⟩ := blk8 hh1
    obtain ⟨z0, z1, z2, z3, z4, z5, zf⟩ := blk6 hr1
    clear hc1 hf1
    go_wp2_with fail
    obtain ⟨s0, s1, s2, s3, s4, s5, -⟩ := blk6 (res6 hr1 (.int .i64 0) (.int .i64 0) (.int .i64 0) (.int .i64 0) (.int .i64 0) (.int .i64 0))
    (try simp only [Exit.inBlock, Exit.then]); refine bodyPost_ret (by simp [results, Try.results12, go_sem, s0, s1, s2, s3, s4, s5]; try rfl) rfl ?_
    exact ⟨by first | rfl | simp [loI, loB, loC], by (repeat (first | (with_reducible assumption) | (with_reducible exact Below.refl _ _) | (with_reducible refine below_drewN' ?_ _) | (with_reducible refine Below.drew ?_) | ((with_reducible refine Below.alloc ?_ ?_ _); rotate_left; focus (first | (simp; done) | (simp; omega) | omega)) | ((with_reducible refine Below.setCell ?_ ?_ _); rotate_left; focus (first | (simp; done) | (simp; omega) | omega))))⟩
  cases hhas : hasB size sz
  · skip
    rw [hfam, hhas] at HC; rw [show ecC true false = 2 from rfl] at HC
    clear hF hfam hhas
    generalize inR level 0 ((n2 : Int) - 1) = lev at *
    generalize layOf kind p k g col size (nth lv level.toNat) = lay at *
    generalize layDat kind p k col size (nth lv level.toNat) = VD at *
    generalize ((layChk kind p k col size (nth lv level.toNat) : Nat) : Int) = VH at *
    generalize ((layCnt kind p k col size : Nat) : Int) = VC at *
    go_enter Try.func12, Try.ntmps12
    go_wp2_with fail
    (go_at_call 46; refine (HC.out _ (by (repeat (first | (with_reducible assumption) | (with_reducible exact Below.refl _ _) | (with_reducible refine below_drewN' ?_ _) | (with_reducible refine Below.drew ?_) | ((with_reducible refine Below.alloc ?_ ?_ _); rotate_left; focus (first | (simp; done) | (simp; omega) | omega)) | ((with_reducible refine Below.setCell ?_ ?_ _); rotate_left; focus (first | (simp; done) | (simp; omega) | omega)))))).mono ?_; rintro e1 w1 ⟨rfl, hb1⟩; obtain ⟨hc1, hf1⟩ := bcell hb1; have hB1 : Below w.heap.size w w1 := (below_then (by first | (go_grown; done) | (repeat (first | (with_reducible assumption) | (with_reducible exact Below.refl _ _) | (with_reducible refine below_drewN' ?_ _) | (with_reducible refine Below.drew ?_) | ((with_reducible refine Below.alloc ?_ ?_ _); rotate_left; focus (first | (simp; done) | (simp; omega) | omega)) | ((with_reducible refine Below.setCell ?_ ?_ _); rotate_left; focus (first | (simp; done) | (simp; omega) | omega))))) (by first | omega | (simp; done) | (simp; omega)) hb1); have hz1a : w.heap.size < w1.heap.size := (by have := hb1.size; first | omega | (simp at this; omega)); have hz1b : w.heap.size + 1 < w1.heap.size := (by have := hb1.size; first | omega | (simp at this; omega)))
    have hh1 := blk_below (blk_alloc (heap_alloc_new w (.cells #[.string s, .int .i64 kind, .int .i64 p, .int .i64 k, .int .i64 g, .slice A1 n1 c1, .int .i64 col, .slice A2 n2 c2] 34)) (by simp)) hb1 (by simp; omega)
    have hr1 : w1.heap[w.heap.size + 1]? = some (.cells #[.int .i64 0, .int .i64 0, .int .i64 0, .int .i64 0, .int .i64 0, .int .i64 0] 30 (0, 0)) := by
      refine blk_below ?_ hb1 (by first | (simp; done) | (simp; omega))
      (repeat (first | (with_reducible exact heap_alloc_new _ _) | (rw [heap_drew1]) | (rw [heap_drewN1]) | (rw [Below.heap_setCell _ _ _ _ (by first | omega | (simp; done) | (simp; omega))]) | (rw [Below.heap_alloc _ _ _ (by first | omega | (simp; done) | (simp; omega))]) | (exact heap_alloc_at (by first | omega | (simp; done) | (simp; omega)))))
    obtain ⟨y0, y1, y2, y3, y4, y5, y6, y7, -⟩ := blk8 hh1
    obtain ⟨z0, z1, z2, z3, z4, z5, zf⟩ := blk6 hr1
    clear hc1 hf1
    go_wp2_with fail
    obtain ⟨s0, s1, s2, s3, s4, s5, -⟩ := blk6 (res6 hr1 (.int .i64 0) (.int .i64 0) (.int .i64 0) (.int .i64 0) (.int .i64 0) (.int .i64 0))
    (try simp only [Exit.inBlock, Exit.then]); refine bodyPost_ret (by simp [results, Try.results12, go_sem, s0, s1, s2, s3, s4, s5]; try rfl) rfl ?_
    exact ⟨by first | rfl | simp [loI, loB, loC], by (repeat (first | (with_reducible assumption) | (with_reducible exact Below.refl _ _) | (with_reducible refine below_drewN' ?_ _) | (with_reducible refine Below.drew ?_) | ((with_reducible refine Below.alloc ?_ ?_ _); rotate_left; focus (first | (simp; done) | (simp; omega) | omega)) | ((with_reducible refine Below.setCell ?_ ?_ _); rotate_left; focus (first | (simp; done) | (simp; omega) | omega))))⟩
  cases hlev : inR level 0 ((n2 : Int) - 1)
  · skip
    rw [hfam, hhas] at HC; rw [show ecC true true = 0 from rfl] at HC
    rw [hlev] at HV
    clear hF hfam hhas hlev
    generalize layOf kind p k g col size (nth lv level.toNat) = lay at *
    generalize layDat kind p k col size (nth lv level.toNat) = VD at *
    generalize ((layChk kind p k col size (nth lv level.toNat) : Nat) : Int) = VH at *
    generalize ((layCnt kind p k col size : Nat) : Int) = VC at *
    go_enter Try.func12, Try.ntmps12
    go_wp2_with fail
    (go_at_call 46; refine (HC.out _ (by (repeat (first | (with_reducible assumption) | (with_reducible exact Below.refl _ _) | (with_reducible refine below_drewN' ?_ _) | (with_reducible refine Below.drew ?_) | ((with_reducible refine Below.alloc ?_ ?_ _); rotate_left; focus (first | (simp; done) | (simp; omega) | omega)) | ((with_reducible refine Below.setCell ?_ ?_ _); rotate_left; focus (first | (simp; done) | (simp; omega) | omega)))))).mono ?_; rintro e1 w1 ⟨rfl, hb1⟩; obtain ⟨hc1, hf1⟩ := bcell hb1; have hB1 : Below w.heap.size w w1 := (below_then (by first | (go_grown; done) | (repeat (first | (with_reducible assumption) | (with_reducible exact Below.refl _ _) | (with_reducible refine below_drewN' ?_ _) | (with_reducible refine Below.drew ?_) | ((with_reducible refine Below.alloc ?_ ?_ _); rotate_left; focus (first | (simp; done) | (simp; omega) | omega)) | ((with_reducible refine Below.setCell ?_ ?_ _); rotate_left; focus (first | (simp; done) | (simp; omega) | omega))))) (by first | omega | (simp; done) | (simp; omega)) hb1); have hz1a : w.heap.size < w1.heap.size := (by have := hb1.size; first | omega | (simp at this; omega)); have hz1b : w.heap.size + 1 < w1.heap.size := (by have := hb1.size; first | omega | (simp at this; omega)))
    have hh1 := blk_below (blk_alloc (heap_alloc_new w (.cells #[.string s, .int .i64 kind, .int .i64 p, .int .i64 k, .int .i64 g, .slice A1 n1 c1, .int .i64 col, .slice A2 n2 c2] 34)) (by simp)) hb1 (by simp; omega)
    have hr1 : w1.heap[w.heap.size + 1]? = some (.cells #[.int .i64 0, .int .i64 0, .int .i64 0, .int .i64 0, .int .i64 0, .int .i64 0] 30 (0, 0)) := by
      refine blk_below ?_ hb1 (by first | (simp; done) | (simp; omega))
      (repeat (first | (with_reducible exact heap_alloc_new _ _) | (rw [heap_drew1]) | (rw [heap_drewN1]) | (rw [Below.heap_setCell _ _ _ _ (by first | omega | (simp; done) | (simp; omega))]) | (rw [Below.heap_alloc _ _ _ (by first | omega | (simp; done) | (simp; omega))]) | (exact heap_alloc_at (by first | omega | (simp; done) | (simp; omega)))))
    obtain ⟨y0, y1, y2, y3, y4, y5, y6, y7, -⟩ := blk8 hh1
    obtain ⟨z0, z1, z2, z3, z4, z5, zf⟩ := blk6 hr1
    clear hc1 hf1
    go_wp2_with (go_at_call 47; refine (HV.out _).mono ?_; rintro e w' ⟨rfl, rfl⟩)
    obtain ⟨s0, s1, s2, s3, s4, s5, -⟩ := blk6 (res6 hr1 (.int .i64 0) (.int .i64 0) (.int .i64 0) (.int .i64 0) (.int .i64 0) (.int .i64 0))
    (try simp only [Exit.inBlock, Exit.then]); refine bodyPost_ret (by simp [results, Try.results12, go_sem, s0, s1, s2, s3, s4, s5]; try rfl) rfl ?_
    exact ⟨by first | rfl | simp [loI, loB, loC], by (repeat (first | (with_reducible assumption) | (with_reducible exact Below.refl _ _) | (with_reducible refine below_drewN' ?_ _) | (with_reducible refine Below.drew ?_) | ((with_reducible refine Below.alloc ?_ ?_ _); rotate_left; focus (first | (simp; done) | (simp; omega) | omega)) | ((with_reducible refine Below.setCell ?_ ?_ _); rotate_left; focus (first | (simp; done) | (simp; omega) | omega))))⟩
  · skip
    rw [hfam, hhas] at HC; rw [show ecC true true = 0 from rfl] at HC
    rw [hlev] at HV
    obtain ⟨j, rfl, hj⟩ := lev_facts hlev
    have hll := fam_lev hfam (j := j) (by have := hF.h2.len; omega)
    have HY := Lib.hid (fun (w' : World) (hb : Below w.heap.size w w') => l13Layout_any s kind p k g col A1 A2 n1 c1 n2 c2 sz lv size j w' w.heap.size (fam_size hfam hhas) ((hF.h2.more hB).below hb) hb.size hj hll.1 hll.2)
    rw [Int.toNat_natCast]
    have HL := Lib.hid (fun w => sIsLayout_any p k g (layDat kind p k col size (nth lv j)) (layChk kind p k col size (nth lv j) : Nat) (layCnt kind p k col size : Nat) w)
    cases hlay : layOf kind p k g col size (nth lv j)
    · unfold layOf at hlay
      rw [hlay] at HL
      clear hF hfam hhas hlev hlay hll
      generalize layDat kind p k col size (nth lv j) = VD at *
      generalize ((layChk kind p k col size (nth lv j) : Nat) : Int) = VH at *
      generalize ((layCnt kind p k col size : Nat) : Int) = VC at *
      go_enter Try.func12, Try.ntmps12
      go_wp2_with fail
      (go_at_call 46; refine (HC.out _ (by (repeat (first | (with_reducible assumption) | (with_reducible exact Below.refl _ _) | (with_reducible refine below_drewN' ?_ _) | (with_reducible refine Below.drew ?_) | ((with_reducible refine Below.alloc ?_ ?_ _); rotate_left; focus (first | (simp; done) | (simp; omega) | omega)) | ((with_reducible refine Below.setCell ?_ ?_ _); rotate_left; focus (first | (simp; done) | (simp; omega) | omega)))))).mono ?_; rintro e1 w1 ⟨rfl, hb1⟩; obtain ⟨hc1, hf1⟩ := bcell hb1; have hB1 : Below w.heap.size w w1 := (below_then (by first | (go_grown; done) | (repeat (first | (with_reducible assumption) | (with_reducible exact Below.refl _ _) | (with_reducible refine below_drewN' ?_ _) | (with_reducible refine Below.drew ?_) | ((with_reducible refine Below.alloc ?_ ?_ _); rotate_left; focus (first | (simp; done) | (simp; omega) | omega)) | ((with_reducible refine Below.setCell ?_ ?_ _); rotate_left; focus (first | (simp; done) | (simp; omega) | omega))))) (by first | omega | (simp; done) | (simp; omega)) hb1); have hz1a : w.heap.size < w1.heap.size := (by have := hb1.size; first | omega | (simp at this; omega)); have hz1b : w.heap.size + 1 < w1.heap.size := (by have := hb1.size; first | omega | (simp at this; omega)))
      have hh1 := blk_below (blk_alloc (heap_alloc_new w (.cells #[.string s, .int .i64 kind, .int .i64 p, .int .i64 k, .int .i64 g, .slice A1 n1 c1, .int .i64 col, .slice A2 n2 c2] 34)) (by simp)) hb1 (by simp; omega)
      have hr1 : w1.heap[w.heap.size + 1]? = some (.cells #[.int .i64 0, .int .i64 0, .int .i64 0, .int .i64 0, .int .i64 0, .int .i64 0] 30 (0, 0)) := by
        refine blk_below ?_ hb1 (by first | (simp; done) | (simp; omega))
        (repeat (first | (with_reducible exact heap_alloc_new _ _) | (rw [heap_drew1]) | (rw [heap_drewN1]) | (rw [Below.heap_setCell _ _ _ _ (by first | omega | (simp; done) | (simp; omega))]) | (rw [Below.heap_alloc _ _ _ (by first | omega | (simp; done) | (simp; omega))]) | (exact heap_alloc_at (by first | omega | (simp; done) | (simp; omega)))))
      obtain ⟨y0, y1, y2, y3, y4, y5, y6, y7, -⟩ := blk8 hh1
      obtain ⟨z0, z1, z2, z3, z4, z5, zf⟩ := blk6 hr1
      clear hc1 hf1
      go_wp2_with (go_at_call 47; refine (HV.out _).mono ?_; rintro e w' ⟨rfl, rfl⟩)
      (go_at_call 48; refine (HY.out _ (by (repeat (first | (with_reducible assumption) | (with_reducible exact Below.refl _ _) | (with_reducible refine below_drewN' ?_ _) | (with_reducible refine Below.drew ?_) | ((with_reducible refine Below.alloc ?_ ?_ _); rotate_left; focus (first | (simp; done) | (simp; omega) | omega)) | ((with_reducible refine Below.setCell ?_ ?_ _); rotate_left; focus (first | (simp; done) | (simp; omega) | omega)))))).mono ?_; rintro e2 w2 ⟨rfl, hb2⟩; obtain ⟨hc2, hf2⟩ := bcell hb2; have hB2 : Below w.heap.size w w2 := (below_then (by first | (go_grown; done) | (repeat (first | (with_reducible assumption) | (with_reducible exact Below.refl _ _) | (with_reducible refine below_drewN' ?_ _) | (with_reducible refine Below.drew ?_) | ((with_reducible refine Below.alloc ?_ ?_ _); rotate_left; focus (first | (simp; done) | (simp; omega) | omega)) | ((with_reducible refine Below.setCell ?_ ?_ _); rotate_left; focus (first | (simp; done) | (simp; omega) | omega))))) (by first | omega | (simp; done) | (simp; omega)) hb2); have hz2a : w.heap.size < w2.heap.size := (by have := hb2.size; first | omega | (simp at this; omega)); have hz2b : w.heap.size + 1 < w2.heap.size := (by have := hb2.size; first | omega | (simp at this; omega)))
      clear y0 y1 y2 y3 y4 y5 y6 y7 z0 z1 z2 z3 z4 z5 zf
      have hh2 := blk_below hh1 hb2 hz1a
      have hr2 := blk_below hr1 hb2 hz1b
      obtain ⟨y0, y1, y2, y3, y4, y5, y6, y7, -⟩ := blk8 hh2
      obtain ⟨z0, z1, z2, z3, z4, z5, zf⟩ := blk6 hr2
      clear hc2 hf2 hh1 hr1
      go_wp2_with fail
      (go_at_call 49; with_reducible refine (HL.out _).mono ?_; rintro e3 w3 ⟨rfl, hb3⟩; obtain ⟨hc3, hf3⟩ := bcell hb3; have hB3 : Below w.heap.size w w3 := (below_then (by first | (go_grown; done) | (repeat (first | (with_reducible assumption) | (with_reducible exact Below.refl _ _) | (with_reducible refine below_drewN' ?_ _) | (with_reducible refine Below.drew ?_) | ((with_reducible refine Below.alloc ?_ ?_ _); rotate_left; focus (first | (simp; done) | (simp; omega) | omega)) | ((with_reducible refine Below.setCell ?_ ?_ _); rotate_left; focus (first | (simp; done) | (simp; omega) | omega))))) (by first | omega | (simp; done) | (simp; omega)) hb3); have hz3a : w.heap.size < w3.heap.size := (by have := hb3.size; first | omega | (simp at this; omega)); have hz3b : w.heap.size + 1 < w3.heap.size := (by have := hb3.size; first | omega | (simp at this; omega)); have hz3c : w2.heap.size < w3.heap.size := (by have := hb3.size; first | omega | (simp at this; omega)))
      have hh3 := blk_below (blk_alloc hh2 hz2a) hb3 (by first | (simp; done) | (simp; omega))
      have hr3 := blk_below (blk_alloc hr2 hz2b) hb3 (by first | (simp; done) | (simp; omega))
      have hl3 : w3.heap[w2.heap.size]? = some (.cells #[.int .i64 p, .int .i64 k, .int .i64 g, .int .i64 VD, .int .i64 VH, .int .i64 VC] 30 (0, 0)) := blk_below (heap_alloc_new _ _) hb3 (by simp)
      clear y0 y1 y2 y3 y4 y5 y6 y7 z0 z1 z2 z3 z4 z5 zf
      obtain ⟨z0, z1, z2, z3, z4, z5, zf⟩ := blk6 hr3
      obtain ⟨l0, l1, l2, l3, l4, l5, -⟩ := blk6 hl3
      clear hc3 hf3 hh2 hh3 hr2 hl3
      go_wp2_with fail
      obtain ⟨s0, s1, s2, s3, s4, s5, -⟩ := blk6 (res6 hr3 (.int .i64 0) (.int .i64 0) (.int .i64 0) (.int .i64 0) (.int .i64 0) (.int .i64 0))
      (try simp only [Exit.inBlock, Exit.then]); refine bodyPost_ret (by simp [results, Try.results12, go_sem, s0, s1, s2, s3, s4, s5]; try rfl) rfl ?_
      exact ⟨by first | rfl | simp [loI, loB, loC], by (repeat (first | (with_reducible assumption) | (with_reducible exact Below.refl _ _) | (with_reducible refine below_drewN' ?_ _) | (with_reducible refine Below.drew ?_) | ((with_reducible refine Below.alloc ?_ ?_ _); rotate_left; focus (first | (simp; done) | (simp; omega) | omega)) | ((with_reducible refine Below.setCell ?_ ?_ _); rotate_left; focus (first | (simp; done) | (simp; omega) | omega))))⟩
    · unfold layOf at hlay
      rw [hlay] at HL
      clear hF hfam hhas hlev hlay hll
      generalize layDat kind p k col size (nth lv j) = VD at *
      generalize ((layChk kind p k col size (nth lv j) : Nat) : Int) = VH at *
      generalize ((layCnt kind p k col size : Nat) : Int) = VC at *
      go_enter Try.func12, Try.ntmps12
      go_wp2_with fail
      (go_at_call 46; refine (HC.out _ (by (repeat (first | (with_reducible assumption) | (with_reducible exact Below.refl _ _) | (with_reducible refine below_drewN' ?_ _) | (with_reducible refine Below.drew ?_) | ((with_reducible refine Below.alloc ?_ ?_ _); rotate_left; focus (first | (simp; done) | (simp; omega) | omega)) | ((with_reducible refine Below.setCell ?_ ?_ _); rotate_left; focus (first | (simp; done) | (simp; omega) | omega)))))).mono ?_; rintro e1 w1 ⟨rfl, hb1⟩; obtain ⟨hc1, hf1⟩ := bcell hb1; have hB1 : Below w.heap.size w w1 := (below_then (by first | (go_grown; done) | (repeat (first | (with_reducible assumption) | (with_reducible exact Below.refl _ _) | (with_reducible refine below_drewN' ?_ _) | (with_reducible refine Below.drew ?_) | ((with_reducible refine Below.alloc ?_ ?_ _); rotate_left; focus (first | (simp; done) | (simp; omega) | omega)) | ((with_reducible refine Below.setCell ?_ ?_ _); rotate_left; focus (first | (simp; done) | (simp; omega) | omega))))) (by first | omega | (simp; done) | (simp; omega)) hb1); have hz1a : w.heap.size < w1.heap.size := (by have := hb1.size; first | omega | (simp at this; omega)); have hz1b : w.heap.size + 1 < w1.heap.size := (by have := hb1.size; first | omega | (simp at this; omega)))
      have hh1 := blk_below (blk_alloc (heap_alloc_new w (.cells #[.string s, .int .i64 kind, .int .i64 p, .int .i64 k, .int .i64 g, .slice A1 n1 c1, .int .i64 col, .slice A2 n2 c2] 34)) (by simp)) hb1 (by simp; omega)
      have hr1 : w1.heap[w.heap.size + 1]? = some (.cells #[.int .i64 0, .int .i64 0, .int .i64 0, .int .i64 0, .int .i64 0, .int .i64 0] 30 (0, 0)) := by
        refine blk_below ?_ hb1 (by first | (simp; done) | (simp; omega))
        (repeat (first | (with_reducible exact heap_alloc_new _ _) | (rw [heap_drew1]) | (rw [heap_drewN1]) | (rw [Below.heap_setCell _ _ _ _ (by first | omega | (simp; done) | (simp; omega))]) | (rw [Below.heap_alloc _ _ _ (by first | omega | (simp; done) | (simp; omega))]) | (exact heap_alloc_at (by first | omega | (simp; done) | (simp; omega)))))
      obtain ⟨y0, y1, y2, y3, y4, y5, y6, y7, -⟩ := blk8 hh1
      obtain ⟨z0, z1, z2, z3, z4, z5, zf⟩ := blk6 hr1
      clear hc1 hf1
      go_wp2_with (go_at_call 47; refine (HV.out _).mono ?_; rintro e w' ⟨rfl, rfl⟩)
      (go_at_call 48; refine (HY.out _ (by (repeat (first | (with_reducible assumption) | (with_reducible exact Below.refl _ _) | (with_reducible refine below_drewN' ?_ _) | (with_reducible refine Below.drew ?_) | ((with_reducible refine Below.alloc ?_ ?_ _); rotate_left; focus (first | (simp; done) | (simp; omega) | omega)) | ((with_reducible refine Below.setCell ?_ ?_ _); rotate_left; focus (first | (simp; done) | (simp; omega) | omega)))))).mono ?_; rintro e2 w2 ⟨rfl, hb2⟩; obtain ⟨hc2, hf2⟩ := bcell hb2; have hB2 : Below w.heap.size w w2 := (below_then (by first | (go_grown; done) | (repeat (first | (with_reducible assumption) | (with_reducible exact Below.refl _ _) | (with_reducible refine below_drewN' ?_ _) | (with_reducible refine Below.drew ?_) | ((with_reducible refine Below.alloc ?_ ?_ _); rotate_left; focus (first | (simp; done) | (simp; omega) | omega)) | ((with_reducible refine Below.setCell ?_ ?_ _); rotate_left; focus (first | (simp; done) | (simp; omega) | omega))))) (by first | omega | (simp; done) | (simp; omega)) hb2); have hz2a : w.heap.size < w2.heap.size := (by have := hb2.size; first | omega | (simp at this; omega)); have hz2b : w.heap.size + 1 < w2.heap.size := (by have := hb2.size; first | omega | (simp at this; omega)))
      clear y0 y1 y2 y3 y4 y5 y6 y7 z0 z1 z2 z3 z4 z5 zf
      have hh2 := blk_below hh1 hb2 hz1a
      have hr2 := blk_below hr1 hb2 hz1b
      obtain ⟨y0, y1, y2, y3, y4, y5, y6, y7, -⟩ := blk8 hh2
      obtain ⟨z0, z1, z2, z3, z4, z5, zf⟩ := blk6 hr2
      clear hc2 hf2 hh1 hr1
      go_wp2_with fail
      (go_at_call 49; with_reducible refine (HL.out _).mono ?_; rintro e3 w3 ⟨rfl, hb3⟩; obtain ⟨hc3, hf3⟩ := bcell hb3; have hB3 : Below w.heap.size w w3 := (below_then (by first | (go_grown; done) | (repeat (first | (with_reducible assumption) | (with_reducible exact Below.refl _ _) | (with_reducible refine below_drewN' ?_ _) | (with_reducible refine Below.drew ?_) | ((with_reducible refine Below.alloc ?_ ?_ _); rotate_left; focus (first | (simp; done) | (simp; omega) | omega)) | ((with_reducible refine Below.setCell ?_ ?_ _); rotate_left; focus (first | (simp; done) | (simp; omega) | omega))))) (by first | omega | (simp; done) | (simp; omega)) hb3); have hz3a : w.heap.size < w3.heap.size := (by have := hb3.size; first | omega | (simp at this; omega)); have hz3b : w.heap.size + 1 < w3.heap.size := (by have := hb3.size; first | omega | (simp at this; omega)); have hz3c : w2.heap.size < w3.heap.size := (by have := hb3.size; first | omega | (simp at this; omega)))
      have hh3 := blk_below (blk_alloc hh2 hz2a) hb3 (by first | (simp; done) | (simp; omega))
      have hr3 := blk_below (blk_alloc hr2 hz2b) hb3 (by first | (simp; done) | (simp; omega))
      have hl3 : w3.heap[w2.heap.size]? = some (.cells #[.int .i64 p, .int .i64 k, .int .i64 g, .int .i64 VD, .int .i64 VH, .int .i64 VC] 30 (0, 0)) := blk_below (heap_alloc_new _ _) hb3 (by simp)
      clear y0 y1 y2 y3 y4 y5 y6 y7 z0 z1 z2 z3 z4 z5 zf
      obtain ⟨z0, z1, z2, z3, z4, z5, zf⟩ := blk6 hr3
      obtain ⟨l0, l1, l2, l3, l4, l5, -⟩ := blk6 hl3
      clear hc3 hf3 hh2 hh3 hr2 hl3
      go_wp2_with fail
      obtain ⟨s0, s1, s2, s3, s4, s5, -⟩ := blk6 (res6 hr3 (.int .i64 p) (.int .i64 k) (.int .i64 g) (.int .i64 VD) (.int .i64 VH) (.int .i64 VC))
      (try simp only [Exit.inBlock, Exit.then]); refine bodyPost_ret (by simp [results, Try.results12, go_sem, s0, s1, s2, s3, s4, s5]; try rfl) rfl ?_
      exact ⟨by first | rfl | simp [loI, loB, loC], by (repeat (first | (with_reducible assumption) | (with_reducible exact Below.refl _ _) | (with_reducible refine below_drewN' ?_ _) | (with_reducible refine Below.drew ?_) | ((with_reducible refine Below.alloc ?_ ?_ _); rotate_left; focus (first | (simp; done) | (simp; omega) | omega)) | ((with_reducible refine Below.setCell ?_ ?_ _); rotate_left; focus (first | (simp; done) | (simp; omega) | omega))))⟩

set_option maxHeartbeats 4000000 in
theorem RoomOf_any (s : ByteArray) (kind p k g col : Int) (A1 A2 : Option Addr) (n1 c1 n2 c2 : Nat) (sz lv : List Int) (size level : Int) (w : World) (B : Nat) (hF : FamOk w B s A1 n1 sz A2 n2 lv) (hB : B ≤ w.heap.size) :
    Calls Try.prog 22 #[.agg #[.string s, .int .i64 kind, .int .i64 p, .int .i64 k, .int .i64 g, .slice A1 n1 c1, .int .i64 col, .slice A2 n2 c2], .int .i64 size, .int .i64 level] w fun e w' => e = .returned (.tuple #[.int .i64 (loI (loB (famB s kind p k g col n1 sz n2 lv) (hasB size sz) (inR level 0 ((n2 : Int) - 1)) (layOf kind p k g col size (nth lv level.toNat))) (layDat kind p k col size (nth lv level.toNat) * widV (fsize p k))), .int .i64 (loC (famB s kind p k g col n1 sz n2 lv) (hasB size sz) (inR level 0 ((n2 : Int) - 1)) (layOf kind p k g col size (nth lv level.toNat)))]) ∧ Below w.heap.size w w' := by
  have HL := Lib.hid (fun (w' : World) (hb : Below w.heap.size w w') => LayoutOf_any s kind p k g col A1 A2 n1 c1 n2 c2 sz lv size level w' w.heap.size ((hF.more hB).below hb) hb.size)
  clear hF
  cases hok : (loB (famB s kind p k g col n1 sz n2 lv) (hasB size sz) (inR level 0 ((n2 : Int) - 1)) (layOf kind p k g col size (nth lv level.toNat)))
  · have hcode := loC_no hok
    rw [hok] at HL
    generalize (loC (famB s kind p k g col n1 sz n2 lv) (hasB size sz) (inR level 0 ((n2 : Int) - 1)) (layOf kind p k g col size (nth lv level.toNat))) = C at *
    clear hok
    rcases hcode with rfl | rfl | rfl
    all_goals
      go_enter Try.func22, Try.ntmps22
      go_wp2_with fail
      (go_at_call 14; refine (HL.out _ (by (repeat (first | (with_reducible assumption) | (with_reducible exact Below.refl _ _) | (with_reducible refine below_drewN' ?_ _) | (with_reducible refine Below.drew ?_) | ((with_reducible refine Below.alloc ?_ ?_ _); rotate_left; focus (first | (simp; done) | (simp; omega) | omega)) | ((with_reducible refine Below.setCell ?_ ?_ _); rotate_left; focus (first | (simp; done) | (simp; omega) | omega)))))).mono ?_; rintro e1 w1 ⟨rfl, hb1⟩; obtain ⟨hc1, hf1⟩ := bcell hb1; have hB1 : Below w.heap.size w w1 := (below_then (by first | (go_grown; done) | (repeat (first | (with_reducible assumption) | (with_reducible exact Below.refl _ _) | (with_reducible refine below_drewN' ?_ _) | (with_reducible refine Below.drew ?_) | ((with_reducible refine Below.alloc ?_ ?_ _); rotate_left; focus (first | (simp; done) | (simp; omega) | omega)) | ((with_reducible refine Below.setCell ?_ ?_ _); rotate_left; focus (first | (simp; done) | (simp; omega) | omega))))) (by first | omega | (simp; done) | (simp; omega)) hb1); have hz1a : w.heap.size < w1.heap.size := (by have := hb1.size; first | omega | (simp at this; omega)))
      go_wp2_with fail
      go_returns
      exact ⟨by first | rfl | simp [loI], by (repeat (first | (with_reducible assumption) | (with_reducible exact Below.refl _ _) | (with_reducible refine below_drewN' ?_ _) | (with_reducible refine Below.drew ?_) | ((with_reducible refine Below.alloc ?_ ?_ _); rotate_left; focus (first | (simp; done) | (simp; omega) | omega)) | ((with_reducible refine Below.setCell ?_ ?_ _); rotate_left; focus (first | (simp; done) | (simp; omega) | omega))))⟩
  · obtain ⟨hcode, hfamT, hlayT⟩ := loC_yes hok
    have hfldT := lay_field hlayT
    rw [hok, hcode] at HL
    rw [hcode]
    clear hok hcode hfamT
    have hbd := lay_room (kind := kind) (p := p) (k := k) (g := g) (col := col) (size := size) (l := nth lv level.toNat) hlayT hfldT
    have HW := Lib.hid (fun w => FieldWidth_any p k g w hfldT)
    generalize layDat kind p k col size (nth lv level.toNat) = VD at *
    generalize ((layChk kind p k col size (nth lv level.toNat) : Nat) : Int) = VH at *
    generalize ((layCnt kind p k col size : Nat) : Int) = VC at *
    generalize widV (fsize p k) = WV at *
    obtain ⟨hb1', hb2', hb3'⟩ := hbd
    have hz0 : loI true (VD * WV) = VD * WV := rfl
    rw [hz0]
    simp only [loI, cond_true] at HL
    generalize hPP : VD * WV = PP at *
    go_enter Try.func22, Try.ntmps22
    go_wp2_with fail
    (go_at_call 14; refine (HL.out _ (by (repeat (first | (with_reducible assumption) | (with_reducible exact Below.refl _ _) | (with_reducible refine below_drewN' ?_ _) | (with_reducible refine Below.drew ?_) | ((with_reducible refine Below.alloc ?_ ?_ _); rotate_left; focus (first | (simp; done) | (simp; omega) | omega)) | ((with_reducible refine Below.setCell ?_ ?_ _); rotate_left; focus (first | (simp; done) | (simp; omega) | omega)))))).mono ?_; rintro e1 w1 ⟨rfl, hb1⟩; obtain ⟨hc1, hf1⟩ := bcell hb1; have hB1 : Below w.heap.size w w1 := (below_then (by first | (go_grown; done) | (repeat (first | (with_reducible assumption) | (with_reducible exact Below.refl _ _) | (with_reducible refine below_drewN' ?_ _) | (with_reducible refine Below.drew ?_) | ((with_reducible refine Below.alloc ?_ ?_ _); rotate_left; focus (first | (simp; done) | (simp; omega) | omega)) | ((with_reducible refine Below.setCell ?_ ?_ _); rotate_left; focus (first | (simp; done) | (simp; omega) | omega))))) (by first | omega | (simp; done) | (simp; omega)) hb1); have hz1a : w.heap.size < w1.heap.size := (by have := hb1.size; first | omega | (simp at this; omega)))
    have hh1 := blk_below (heap_alloc_new w (.cells #[.string s, .int .i64 kind, .int .i64 p, .int .i64 k, .int .i64 g, .slice A1 n1 c1, .int .i64 col, .slice A2 n2 c2] 34)) hb1 (by simp)
    obtain ⟨y0, y1, y2, y3, y4, y5, y6, y7, -⟩ := blk8 hh1
    clear hc1 hf1 hlayT hfldT
    go_wp2_with fail
    refine wp_region_qat [] 8 [] (by kernel_rfl) (by kernel_rfl) ?_
    intro hbc
    simp only [List.take_succ_cons, List.take_zero, List.drop_succ_cons, List.drop_zero]
    repeat (first
      | refine wpQ_pass rfl ?_
      | (refine wpQ_step rfl (fun K hK => ?_)
         go_simp
         first
           | (refine hK _ ?_; clear hK K)
           | (apply Exists.intro
              refine ⟨fun z => ?_, ?_⟩
              focus (first | (go_at_call 24; exact HW.out _))
              refine hK _ ?_
              clear hK K)))
    refine wpQ_nil ⟨?_, ?_⟩
    · exact rfl
    intro  w2 hb2 hF2
    clear hbc
    obtain ⟨hc2, hf2⟩ := bcell hb2
    have hB2 : Below w.heap.size w w2 := below_then (by first | (go_grown; done) | (repeat (first | (with_reducible assumption) | (with_reducible exact Below.refl _ _) | (with_reducible refine below_drewN' ?_ _) | (with_reducible refine Below.drew ?_) | ((with_reducible refine Below.alloc ?_ ?_ _); rotate_left; focus (first | (simp; done) | (simp; omega) | omega)) | ((with_reducible refine Below.setCell ?_ ?_ _); rotate_left; focus (first | (simp; done) | (simp; omega) | omega))))) (by first | (simp; done) | (simp; omega) | omega) hb2
    have hz2a : w.heap.size < w2.heap.size := (by have := hb2.size; first | omega | (simp at this; omega))
    clear hF2
    try simp only [Act.put, List.setIfInBounds_toArray, List.set_cons_succ, List.set_cons_zero]
    go_wp2_with fail
    go_returns
    exact ⟨by first | rfl | simp, by (repeat (first | (with_reducible assumption) | (with_reducible exact Below.refl _ _) | (with_reducible refine below_drewN' ?_ _) | (with_reducible refine Below.drew ?_) | ((with_reducible refine Below.alloc ?_ ?_ _); rotate_left; focus (first | (simp; done) | (simp; omega) | omega)) | ((with_reducible refine Below.setCell ?_ ?_ _); rotate_left; focus (first | (simp; done) | (simp; omega) | omega))))⟩

set_option maxHeartbeats 4000000 in
theorem sRoomOf_any (s : ByteArray) (kind p k g col : Int) (A1 A2 : Option Addr) (n1 c1 n2 c2 : Nat) (sz lv : List Int) (size level : Int) (w : World) (B : Nat) (hF : FamOk w B s A1 n1 sz A2 n2 lv) (hB : B ≤ w.heap.size) :
    Calls Try.prog 44 #[.agg #[.string s, .int .i64 kind, .int .i64 p, .int .i64 k, .int .i64 g, .slice A1 n1 c1, .int .i64 col, .slice A2 n2 c2], .int .i64 size, .int .i64 level] w fun e w' => e = .returned (.tuple #[.int .i64 (loI (loB (famB s kind p k g col n1 sz n2 lv) (hasB size sz) (inR level 0 ((n2 : Int) - 1)) (layOf kind p k g col size (nth lv level.toNat))) (layDat kind p k col size (nth lv level.toNat) * widV (fsize p k))), .int .i64 (loC (famB s kind p k g col n1 sz n2 lv) (hasB size sz) (inR level 0 ((n2 : Int) - 1)) (layOf kind p k g col size (nth lv level.toNat)))]) ∧ Below w.heap.size w w' := by
  have HL := Lib.hid (fun (w' : World) (hb : Below w.heap.size w w') => sLayoutOf_any s kind p k g col A1 A2 n1 c1 n2 c2 sz lv size level w' w.heap.size ((hF.more hB).below hb) hb.size)
  clear hF
  cases hok : (loB (famB s kind p k g col n1 sz n2 lv) (hasB size sz) (inR level 0 ((n2 : Int) - 1)) (layOf kind p k g col size (nth lv level.toNat)))
  · have hcode := loC_no hok
    rw [hok] at HL
    generalize (loC (famB s kind p k g col n1 sz n2 lv) (hasB size sz) (inR level 0 ((n2 : Int) - 1)) (layOf kind p k g col size (nth lv level.toNat))) = C at *
    clear hok
    rcases hcode with rfl | rfl | rfl
    all_goals
      go_enter Try.func44, Try.ntmps44
      go_wp2_with fail
      (go_at_call 12; refine (HL.out _ (by (repeat (first | (with_reducible assumption) | (with_reducible exact Below.refl _ _) | (with_reducible refine below_drewN' ?_ _) | (with_reducible refine Below.drew ?_) | ((with_reducible refine Below.alloc ?_ ?_ _); rotate_left; focus (first | (simp; done) | (simp; omega) | omega)) | ((with_reducible refine Below.setCell ?_ ?_ _); rotate_left; focus (first | (simp; done) | (simp; omega) | omega)))))).mono ?_; rintro e1 w1 ⟨rfl, hb1⟩; obtain ⟨hc1, hf1⟩ := bcell hb1; have hB1 : Below w.heap.size w w1 := (below_then (by first | (go_grown; done) | (repeat (first | (with_reducible assumption) | (with_reducible exact Below.refl _ _) | (with_reducible refine below_drewN' ?_ _) | (with_reducible refine Below.drew ?_) | ((with_reducible refine Below.alloc ?_ ?_ _); rotate_left; focus (first | (simp; done) | (simp; omega) | omega)) | ((with_reducible refine Below.setCell ?_ ?_ _); rotate_left; focus (first | (simp; done) | (simp; omega) | omega))))) (by first | omega | (simp; done) | (simp; omega)) hb1); have hz1a : w.heap.size < w1.heap.size := (by have := hb1.size; first | omega | (simp at this; omega)))
      go_wp2_with fail
      go_returns
      exact ⟨by first | rfl | simp [loI], by (repeat (first | (with_reducible assumption) | (with_reducible exact Below.refl _ _) | (with_reducible refine below_drewN' ?_ _) | (with_reducible refine Below.drew ?_) | ((with_reducible refine Below.alloc ?_ ?_ _); rotate_left; focus (first | (simp; done) | (simp; omega) | omega)) | ((with_reducible refine Below.setCell ?_ ?_ _); rotate_left; focus (first | (simp; done) | (simp; omega) | omega))))⟩
  · obtain ⟨hcode, hfamT, hlayT⟩ := loC_yes hok
    have hfldT := lay_field hlayT
    rw [hok, hcode] at HL
    rw [hcode]
    clear hok hcode hfamT
    have hbd := lay_room (kind := kind) (p := p) (k := k) (g := g) (col := col) (size := size) (l := nth lv level.toNat) hlayT hfldT
    have HW := Lib.hid (fun w => l11Width_any p k g w hfldT)
    generalize layDat kind p k col size (nth lv level.toNat) = VD at *
    generalize ((layChk kind p k col size (nth lv level.toNat) : Nat) : Int) = VH at *
    generalize ((layCnt kind p k col size : Nat) : Int) = VC at *
    generalize widV (fsize p k) = WV at *
    obtain ⟨hb1', hb2', hb3'⟩ := hbd
    have hz0 : loI true (VD * WV) = VD * WV := rfl
    rw [hz0]
    simp only [loI, cond_true] at HL
    generalize hPP : VD * WV = PP at *
    go_enter Try.func44, Try.ntmps44
    go_wp2_with fail
    (go_at_call 12; refine (HL.out _ (by (repeat (first | (with_reducible assumption) | (with_reducible exact Below.refl _ _) | (with_reducible refine below_drewN' ?_ _) | (with_reducible refine Below.drew ?_) | ((with_reducible refine Below.alloc ?_ ?_ _); rotate_left; focus (first | (simp; done) | (simp; omega) | omega)) | ((with_reducible refine Below.setCell ?_ ?_ _); rotate_left; focus (first | (simp; done) | (simp; omega) | omega)))))).mono ?_; rintro e1 w1 ⟨rfl, hb1⟩; obtain ⟨hc1, hf1⟩ := bcell hb1; have hB1 : Below w.heap.size w w1 := (below_then (by first | (go_grown; done) | (repeat (first | (with_reducible assumption) | (with_reducible exact Below.refl _ _) | (with_reducible refine below_drewN' ?_ _) | (with_reducible refine Below.drew ?_) | ((with_reducible refine Below.alloc ?_ ?_ _); rotate_left; focus (first | (simp; done) | (simp; omega) | omega)) | ((with_reducible refine Below.setCell ?_ ?_ _); rotate_left; focus (first | (simp; done) | (simp; omega) | omega))))) (by first | omega | (simp; done) | (simp; omega)) hb1); have hz1a : w.heap.size < w1.heap.size := (by have := hb1.size; first | omega | (simp at this; omega)))
    have hh1 := blk_below (heap_alloc_new w (.cells #[.string s, .int .i64 kind, .int .i64 p, .int .i64 k, .int .i64 g, .slice A1 n1 c1, .int .i64 col, .slice A2 n2 c2] 34)) hb1 (by simp)
    obtain ⟨y0, y1, y2, y3, y4, y5, y6, y7, -⟩ := blk8 hh1
    clear hc1 hf1 hlayT hfldT
    go_wp2_with fail
    refine wp_region_qat [] 8 [] (by kernel_rfl) (by kernel_rfl) ?_
    intro hbc
    simp only [List.take_succ_cons, List.take_zero, List.drop_succ_cons, List.drop_zero]
    repeat (first
      | refine wpQ_pass rfl ?_
      | (refine wpQ_step rfl (fun K hK => ?_)
         go_simp
         first
           | (refine hK _ ?_; clear hK K)
           | (apply Exists.intro
              refine ⟨fun z => ?_, ?_⟩
              focus (first | (go_at_call 87; exact HW.out _))
              refine hK _ ?_
              clear hK K)))
    refine wpQ_nil ⟨?_, ?_⟩
    · exact rfl
    intro  w2 hb2 hF2
    clear hbc
    obtain ⟨hc2, hf2⟩ := bcell hb2
    have hB2 : Below w.heap.size w w2 := below_then (by first | (go_grown; done) | (repeat (first | (with_reducible assumption) | (with_reducible exact Below.refl _ _) | (with_reducible refine below_drewN' ?_ _) | (with_reducible refine Below.drew ?_) | ((with_reducible refine Below.alloc ?_ ?_ _); rotate_left; focus (first | (simp; done) | (simp; omega) | omega)) | ((with_reducible refine Below.setCell ?_ ?_ _); rotate_left; focus (first | (simp; done) | (simp; omega) | omega))))) (by first | (simp; done) | (simp; omega) | omega) hb2
    have hz2a : w.heap.size < w2.heap.size := (by have := hb2.size; first | omega | (simp at this; omega))
    clear hF2
    try simp only [Act.put, List.setIfInBounds_toArray, List.set_cons_succ, List.set_cons_zero]
    go_wp2_with fail
    go_returns
    exact ⟨by first | rfl | simp, by (repeat (first | (with_reducible assumption) | (with_reducible exact Below.refl _ _) | (with_reducible refine below_drewN' ?_ _) | (with_reducible refine Below.drew ?_) | ((with_reducible refine Below.alloc ?_ ?_ _); rotate_left; focus (first | (simp; done) | (simp; omega) | omega)) | ((with_reducible refine Below.setCell ?_ ?_ _); rotate_left; focus (first | (simp; done) | (simp; omega) | omega))))⟩

set_option maxHeartbeats 4000000 in
theorem ErrorRoom_any (s : ByteArray) (kind p k g col : Int) (A1 A2 : Option Addr) (n1 c1 n2 c2 : Nat) (sz lv : List Int) (size level : Int) (w : World) (B : Nat) (hF : FamOk w B s A1 n1 sz A2 n2 lv) (hB : B ≤ w.heap.size) :
    Calls Try.prog 23 #[.agg #[.string s, .int .i64 kind, .int .i64 p, .int .i64 k, .int .i64 g, .slice A1 n1 c1, .int .i64 col, .slice A2 n2 c2], .int .i64 size, .int .i64 level] w fun e w' => e = .returned (.tuple #[.int .i64 (loI (loB (famB s kind p k g col n1 sz n2 lv) (hasB size sz) (inR level 0 ((n2 : Int) - 1)) (layOf kind p k g col size (nth lv level.toNat))) (layChk kind p k col size (nth lv level.toNat) / 2 : Nat)), .int .i64 (loC (famB s kind p k g col n1 sz n2 lv) (hasB size sz) (inR level 0 ((n2 : Int) - 1)) (layOf kind p k g col size (nth lv level.toNat)))]) ∧ Below w.heap.size w w' := by
  have HL := Lib.hid (fun (w' : World) (hb : Below w.heap.size w w') => LayoutOf_any s kind p k g col A1 A2 n1 c1 n2 c2 sz lv size level w' w.heap.size ((hF.more hB).below hb) hb.size)
  clear hF
  cases hok : (loB (famB s kind p k g col n1 sz n2 lv) (hasB size sz) (inR level 0 ((n2 : Int) - 1)) (layOf kind p k g col size (nth lv level.toNat)))
  · have hcode := loC_no hok
    rw [hok] at HL
    generalize (loC (famB s kind p k g col n1 sz n2 lv) (hasB size sz) (inR level 0 ((n2 : Int) - 1)) (layOf kind p k g col size (nth lv level.toNat))) = C at *
    clear hok
    rcases hcode with rfl | rfl | rfl
    all_goals
      go_enter Try.func23, Try.ntmps23
      go_wp2_with fail
      (go_at_call 14; refine (HL.out _ (by (repeat (first | (with_reducible assumption) | (with_reducible exact Below.refl _ _) | (with_reducible refine below_drewN' ?_ _) | (with_reducible refine Below.drew ?_) | ((with_reducible refine Below.alloc ?_ ?_ _); rotate_left; focus (first | (simp; done) | (simp; omega) | omega)) | ((with_reducible refine Below.setCell ?_ ?_ _); rotate_left; focus (first | (simp; done) | (simp; omega) | omega)))))).mono ?_; rintro e1 w1 ⟨rfl, hb1⟩; obtain ⟨hc1, hf1⟩ := bcell hb1; have hB1 : Below w.heap.size w w1 := (below_then (by first | (go_grown; done) | (repeat (first | (with_reducible assumption) | (with_reducible exact Below.refl _ _) | (with_reducible refine below_drewN' ?_ _) | (with_reducible refine Below.drew ?_) | ((with_reducible refine Below.alloc ?_ ?_ _); rotate_left; focus (first | (simp; done) | (simp; omega) | omega)) | ((with_reducible refine Below.setCell ?_ ?_ _); rotate_left; focus (first | (simp; done) | (simp; omega) | omega))))) (by first | omega | (simp; done) | (simp; omega)) hb1); have hz1a : w.heap.size < w1.heap.size := (by have := hb1.size; first | omega | (simp at this; omega)))
      go_wp2_with fail
      go_returns
      exact ⟨by first | rfl | simp [loI], by (repeat (first | (with_reducible assumption) | (with_reducible exact Below.refl _ _) | (with_reducible refine below_drewN' ?_ _) | (with_reducible refine Below.drew ?_) | ((with_reducible refine Below.alloc ?_ ?_ _); rotate_left; focus (first | (simp; done) | (simp; omega) | omega)) | ((with_reducible refine Below.setCell ?_ ?_ _); rotate_left; focus (first | (simp; done) | (simp; omega) | omega))))⟩
  · obtain ⟨hcode, hfamT, hlayT⟩ := loC_yes hok
    have hfldT := lay_field hlayT
    rw [hok, hcode] at HL
    rw [hcode]
    clear hok hcode hfamT
    have hVH : layChk kind p k col size (nth lv level.toNat) ≤ 64 := (kN_bd _ _ _).2
    generalize layChk kind p k col size (nth lv level.toNat) = VHN at *
    have hVH2 : VHN / 2 ≤ 64 := by omega
    have hq2 : (VHN : Int) / 2 = ((VHN / 2 : Nat) : Int) := by simp
    generalize VHN / 2 = VH2 at *
    have hz0 : loI true (VH2 : Int) = (VH2 : Int) := rfl
    rw [hz0]
    generalize layDat kind p k col size (nth lv level.toNat) = VD at *
    generalize ((layCnt kind p k col size : Nat) : Int) = VC at *
    simp only [loI, cond_true] at HL
    go_enter Try.func23, Try.ntmps23
    go_wp2_with fail
    (go_at_call 14; refine (HL.out _ (by (repeat (first | (with_reducible assumption) | (with_reducible exact Below.refl _ _) | (with_reducible refine below_drewN' ?_ _) | (with_reducible refine Below.drew ?_) | ((with_reducible refine Below.alloc ?_ ?_ _); rotate_left; focus (first | (simp; done) | (simp; omega) | omega)) | ((with_reducible refine Below.setCell ?_ ?_ _); rotate_left; focus (first | (simp; done) | (simp; omega) | omega)))))).mono ?_; rintro e1 w1 ⟨rfl, hb1⟩; obtain ⟨hc1, hf1⟩ := bcell hb1; have hB1 : Below w.heap.size w w1 := (below_then (by first | (go_grown; done) | (repeat (first | (with_reducible assumption) | (with_reducible exact Below.refl _ _) | (with_reducible refine below_drewN' ?_ _) | (with_reducible refine Below.drew ?_) | ((with_reducible refine Below.alloc ?_ ?_ _); rotate_left; focus (first | (simp; done) | (simp; omega) | omega)) | ((with_reducible refine Below.setCell ?_ ?_ _); rotate_left; focus (first | (simp; done) | (simp; omega) | omega))))) (by first | omega | (simp; done) | (simp; omega)) hb1); have hz1a : w.heap.size < w1.heap.size := (by have := hb1.size; first | omega | (simp at this; omega)))
    go_wp2_with fail
    go_returns
    exact ⟨by first | rfl | simp [hq2], by (repeat (first | (with_reducible assumption) | (with_reducible exact Below.refl _ _) | (with_reducible refine below_drewN' ?_ _) | (with_reducible refine Below.drew ?_) | ((with_reducible refine Below.alloc ?_ ?_ _); rotate_left; focus (first | (simp; done) | (simp; omega) | omega)) | ((with_reducible refine Below.setCell ?_ ?_ _); rotate_left; focus (first | (simp; done) | (simp; omega) | omega))))⟩

set_option maxHeartbeats 4000000 in
theorem sErrorRoom_any (s : ByteArray) (kind p k g col : Int) (A1 A2 : Option Addr) (n1 c1 n2 c2 : Nat) (sz lv : List Int) (size level : Int) (w : World) (B : Nat) (hF : FamOk w B s A1 n1 sz A2 n2 lv) (hB : B ≤ w.heap.size) :
    Calls Try.prog 43 #[.agg #[.string s, .int .i64 kind, .int .i64 p, .int .i64 k, .int .i64 g, .slice A1 n1 c1, .int .i64 col, .slice A2 n2 c2], .int .i64 size, .int .i64 level] w fun e w' => e = .returned (.tuple #[.int .i64 (loI (loB (famB s kind p k g col n1 sz n2 lv) (hasB size sz) (inR level 0 ((n2 : Int) - 1)) (layOf kind p k g col size (nth lv level.toNat))) (layChk kind p k col size (nth lv level.toNat) / 2 : Nat)), .int .i64 (loC (famB s kind p k g col n1 sz n2 lv) (hasB size sz) (inR level 0 ((n2 : Int) - 1)) (layOf kind p k g col size (nth lv level.toNat)))]) ∧ Below w.heap.size w w' := by
  have HL := Lib.hid (fun (w' : World) (hb : Below w.heap.size w w') => sLayoutOf_any s kind p k g col A1 A2 n1 c1 n2 c2 sz lv size level w' w.heap.size ((hF.more hB).below hb) hb.size)
  clear hF
  cases hok : (loB (famB s kind p k g col n1 sz n2 lv) (hasB size sz) (inR level 0 ((n2 : Int) - 1)) (layOf kind p k g col size (nth lv level.toNat)))
  · have hcode := loC_no hok
    rw [hok] at HL
    generalize (loC (famB s kind p k g col n1 sz n2 lv) (hasB size sz) (inR level 0 ((n2 : Int) - 1)) (layOf kind p k g col size (nth lv level.toNat))) = C at *
    clear hok
    rcases hcode with rfl | rfl | rfl
    all_goals
      go_enter Try.func43, Try.ntmps43
      go_wp2_with fail
      (go_at_call 12; refine (HL.out _ (by (repeat (first | (with_reducible assumption) | (with_reducible exact Below.refl _ _) | (with_reducible refine below_drewN' ?_ _) | (with_reducible refine Below.drew ?_) | ((with_reducible refine Below.alloc ?_ ?_ _); rotate_left; focus (first | (simp; done) | (simp; omega) | omega)) | ((with_reducible refine Below.setCell ?_ ?_ _); rotate_left; focus (first | (simp; done) | (simp; omega) | omega)))))).mono ?_; rintro e1 w1 ⟨rfl, hb1⟩; obtain ⟨hc1, hf1⟩ := bcell hb1; have hB1 : Below w.heap.size w w1 := (below_then (by first | (go_grown; done) | (repeat (first | (with_reducible assumption) | (with_reducible exact Below.refl _ _) | (with_reducible refine below_drewN' ?_ _) | (with_reducible refine Below.drew ?_) | ((with_reducible refine Below.alloc ?_ ?_ _); rotate_left; focus (first | (simp; done) | (simp; omega) | omega)) | ((with_reducible refine Below.setCell ?_ ?_ _); rotate_left; focus (first | (simp; done) | (simp; omega) | omega))))) (by first | omega | (simp; done) | (simp; omega)) hb1); have hz1a : w.heap.size < w1.heap.size := (by have := hb1.size; first | omega | (simp at this; omega)))
      go_wp2_with fail
      go_returns
      exact ⟨by first | rfl | simp [loI], by (repeat (first | (with_reducible assumption) | (with_reducible exact Below.refl _ _) | (with_reducible refine below_drewN' ?_ _) | (with_reducible refine Below.drew ?_) | ((with_reducible refine Below.alloc ?_ ?_ _); rotate_left; focus (first | (simp; done) | (simp; omega) | omega)) | ((with_reducible refine Below.setCell ?_ ?_ _); rotate_left; focus (first | (simp; done) | (simp; omega) | omega))))⟩
  · obtain ⟨hcode, hfamT, hlayT⟩ := loC_yes hok
    have hfldT := lay_field hlayT
    rw [hok, hcode] at HL
    rw [hcode]
    clear hok hcode hfamT
    have hVH : layChk kind p k col size (nth lv level.toNat) ≤ 64 := (kN_bd _ _ _).2
    generalize layChk kind p k col size (nth lv level.toNat) = VHN at *
    have hVH2 : VHN / 2 ≤ 64 := by omega
    have hq2 : (VHN : Int) / 2 = ((VHN / 2 : Nat) : Int) := by simp
    generalize VHN / 2 = VH2 at *
    have hz0 : loI true (VH2 : Int) = (VH2 : Int) := rfl
    rw [hz0]
    generalize layDat kind p k col size (nth lv level.toNat) = VD at *
    generalize ((layCnt kind p k col size : Nat) : Int) = VC at *
    simp only [loI, cond_true] at HL
    go_enter Try.func43, Try.ntmps43
    go_wp2_with fail
    (go_at_call 12; refine (HL.out _ (by (repeat (first | (with_reducible assumption) | (with_reducible exact Below.refl _ _) | (with_reducible refine below_drewN' ?_ _) | (with_reducible refine Below.drew ?_) | ((with_reducible refine Below.alloc ?_ ?_ _); rotate_left; focus (first | (simp; done) | (simp; omega) | omega)) | ((with_reducible refine Below.setCell ?_ ?_ _); rotate_left; focus (first | (simp; done) | (simp; omega) | omega)))))).mono ?_; rintro e1 w1 ⟨rfl, hb1⟩; obtain ⟨hc1, hf1⟩ := bcell hb1; have hB1 : Below w.heap.size w w1 := (below_then (by first | (go_grown; done) | (repeat (first | (with_reducible assumption) | (with_reducible exact Below.refl _ _) | (with_reducible refine below_drewN' ?_ _) | (with_reducible refine Below.drew ?_) | ((with_reducible refine Below.alloc ?_ ?_ _); rotate_left; focus (first | (simp; done) | (simp; omega) | omega)) | ((with_reducible refine Below.setCell ?_ ?_ _); rotate_left; focus (first | (simp; done) | (simp; omega) | omega))))) (by first | omega | (simp; done) | (simp; omega)) hb1); have hz1a : w.heap.size < w1.heap.size := (by have := hb1.size; first | omega | (simp at this; omega)))
    go_wp2_with fail
    go_returns
    exact ⟨by first | rfl | simp [hq2], by (repeat (first | (with_reducible assumption) | (with_reducible exact Below.refl _ _) | (with_reducible refine below_drewN' ?_ _) | (with_reducible refine Below.drew ?_) | ((with_reducible refine Below.alloc ?_ ?_ _); rotate_left; focus (first | (simp; done) | (simp; omega) | omega)) | ((with_reducible refine Below.setCell ?_ ?_ _); rotate_left; focus (first | (simp; done) | (simp; omega) | omega))))⟩

end Go.Proofs.Ytbgcbjfimjfbpaa
