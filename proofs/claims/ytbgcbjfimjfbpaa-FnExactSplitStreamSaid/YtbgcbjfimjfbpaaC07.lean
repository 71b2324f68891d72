/-
  Contracts of chapter 7: shares of blocks, codes of blocks, which layouts are valid.
-/
import Derived.Test.YtbgcbjfimjfbpaaC04
namespace Go.Proofs.Ytbgcbjfimjfbpaa
set_option linter.unusedSimpArgs false
open Go.RowKit

/-- How many data elements block b of C has, of D in all. -/
def shN (D C b : Nat) : Nat := D / C + if C - D % C ≤ b then 1 else 0
theorem shN_le {D C b : Nat} (h : 1 ≤ C) (h2 : C ≤ D) (h3 : D ≤ 1500) : 1 ≤ shN D C b ∧ shN D C b ≤ 1501 := by
  have h4 : D / C ≤ D := Nat.div_le_self _ _
  have h5 : 1 ≤ D / C := (Nat.one_le_div_iff (by omega)).2 h2
  unfold shN; split <;> omega
theorem share_facts (D C : Nat) (hC : 1 ≤ C) (hC2 : C ≤ 16) (hD : D ≤ 1500) :
    (D : Int) / C = ((D / C : Nat) : Int) ∧ (D : Int).tdiv C = ((D / C : Nat) : Int) ∧ (D : Int).tmod C = ((D % C : Nat) : Int) ∧ (D : Int) % C = ((D % C : Nat) : Int) ∧ IntKind.i64.wrap ((D / C : Nat) : Int) = ((D / C : Nat) : Int) ∧
    IntKind.i64.wrap ((C : Int) - ((D % C : Nat) : Int)) = ((C - D % C : Nat) : Int) := by
  have h1 : D / C ≤ D := Nat.div_le_self _ _
  have h2 : D % C < C := Nat.mod_lt _ hC
  have h3 : IntKind.i64.wrap ((D / C : Nat) : Int) = ((D / C : Nat) : Int) := wr64 (by generalize D / C = Q at h1; omega)
  refine ⟨by simp, by rw [Int.tdiv_eq_ediv_of_nonneg (by omega)]; simp, by rw [Int.tmod_eq_emod_of_nonneg (by omega)]; simp, by simp, h3, ?_⟩
  generalize D % C = R at h2
  rw [wr64 (by omega)]; omega
set_option maxHeartbeats 1000000 in
theorem share_any (p k g : Int) (D H C b : Nat) (w : World) (hC : 1 ≤ C) (hC2 : C ≤ 16) (hD : D ≤ 1500) (_hb : b ≤ 16) :
    Calls Try.prog 103 #[.agg #[.int .i64 p, .int .i64 k, .int .i64 g, .int .i64 D, .int .i64 H, .int .i64 C], .int .i64 b] w fun e w' => e = .returned (.int .i64 (shN D C b : Nat)) ∧ Below w.heap.size w w' := by
  obtain ⟨q1, q2, q3, q4, q5, q6⟩ := share_facts D C hC hC2 hD
  have hl : D / C ≤ 1500 := Nat.le_trans (Nat.div_le_self _ _) hD
  have hC0 : ¬ C = 0 := by omega
  unfold shN
  generalize hR : C - D % C = R at *
  generalize D % C = M at *
  generalize D / C = Q at *
  clear hR
  by_cases hc : R ≤ b
  · have hd : decide (R ≤ b) = true := decide_eq_true hc
    rw [if_pos hc]
    clear hc
    go_enter Try.func103, Try.ntmps103
    go_wp2_with fail
    go_quiet (fail)
    go_wp2_with fail
    go_ret
    exact ⟨ret_int (by simp), by (repeat (first | (with_reducible assumption) | (with_reducible exact Below.refl _ _) | (with_reducible refine below_drewN' ?_ _) | (with_reducible refine Below.drew ?_) | ((with_reducible refine Below.alloc ?_ ?_ _); rotate_left; focus (first | (simp; done) | (simp; omega) | omega)) | ((with_reducible refine Below.setCell ?_ ?_ _); rotate_left; focus (first | (simp; done) | (simp; omega) | omega))))⟩
  · have hd : decide (R ≤ b) = false := decide_eq_false hc
    rw [if_neg hc]
    clear hc
    go_enter Try.func103, Try.ntmps103
    go_wp2_with fail
    go_quiet (fail)
    go_wp2_with fail
    go_ret
    exact ⟨ret_int (by simp), by (repeat (first | (with_reducible assumption) | (with_reducible exact Below.refl _ _) | (with_reducible refine below_drewN' ?_ _) | (with_reducible refine Below.drew ?_) | ((with_reducible refine Below.alloc ?_ ?_ _); rotate_left; focus (first | (simp; done) | (simp; omega) | omega)) | ((with_reducible refine Below.setCell ?_ ?_ _); rotate_left; focus (first | (simp; done) | (simp; omega) | omega))))⟩

set_option maxHeartbeats 1000000 in
theorem l07Size_any (p k g : Int) (D H C b : Nat) (w : World) (hC : 1 ≤ C) (hC2 : C ≤ 16) (hD : D ≤ 1500) (_hb : b ≤ 16) :
    Calls Try.prog 104 #[.agg #[.int .i64 p, .int .i64 k, .int .i64 g, .int .i64 D, .int .i64 H, .int .i64 C], .int .i64 b] w fun e w' => e = .returned (.int .i64 (shN D C b : Nat)) ∧ Below w.heap.size w w' := by
  obtain ⟨q1, q2, q3, q4, q5, q6⟩ := share_facts D C hC hC2 hD
  have hl : D / C ≤ 1500 := Nat.le_trans (Nat.div_le_self _ _) hD
  have hC0 : ¬ C = 0 := by omega
  unfold shN
  generalize hR : C - D % C = R at *
  generalize D % C = M at *
  generalize D / C = Q at *
  clear hR
  by_cases hc : R ≤ b
  · have hd : decide (R ≤ b) = true := decide_eq_true hc
    rw [if_pos hc]
    clear hc
    go_enter Try.func104, Try.ntmps104
    go_wp2_with fail
    go_quiet (fail)
    go_wp2_with fail
    go_ret
    exact ⟨ret_int (by simp), by (repeat (first | (with_reducible assumption) | (with_reducible exact Below.refl _ _) | (with_reducible refine below_drewN' ?_ _) | (with_reducible refine Below.drew ?_) | ((with_reducible refine Below.alloc ?_ ?_ _); rotate_left; focus (first | (simp; done) | (simp; omega) | omega)) | ((with_reducible refine Below.setCell ?_ ?_ _); rotate_left; focus (first | (simp; done) | (simp; omega) | omega))))⟩
  · have hd : decide (R ≤ b) = false := decide_eq_false hc
    rw [if_neg hc]
    clear hc
    go_enter Try.func104, Try.ntmps104
    go_wp2_with fail
    go_quiet (fail)
    go_wp2_with fail
    go_ret
    exact ⟨ret_int (by simp), by (repeat (first | (with_reducible assumption) | (with_reducible exact Below.refl _ _) | (with_reducible refine below_drewN' ?_ _) | (with_reducible refine Below.drew ?_) | ((with_reducible refine Below.alloc ?_ ?_ _); rotate_left; focus (first | (simp; done) | (simp; omega) | omega)) | ((with_reducible refine Below.setCell ?_ ?_ _); rotate_left; focus (first | (simp; done) | (simp; omega) | omega))))⟩

set_option maxHeartbeats 1000000 in
theorem lcode_any (p k g : Int) (D H C b : Nat) (w : World) (hC : 1 ≤ C) (hC2 : C ≤ 16) (hD : D ≤ 1500) (hH : H ≤ 64) (hb : b ≤ 16) :
    Calls Try.prog 74 #[.agg #[.int .i64 p, .int .i64 k, .int .i64 g, .int .i64 D, .int .i64 H, .int .i64 C], .int .i64 b] w fun e w' => e = .returned (.agg #[.int .i64 p, .int .i64 k, .int .i64 g, .int .i64 ((shN D C b : Nat) + (H : Int)), .int .i64 H]) ∧ Below w.heap.size w w' := by
  have HS := Lib.hid (fun w => share_any p k g D H C b w hC hC2 hD hb)
  have hl : D / C ≤ 1500 := Nat.le_trans (Nat.div_le_self _ _) hD
  have hsl : shN D C b ≤ 1501 := by unfold shN; split <;> omega
  generalize shN D C b = N at *
  have hw : IntKind.i64.wrap ((N : Int) + H) = (N : Int) + H := wr64 (by omega)
  clear hl
  go_enter Try.func74, Try.ntmps74
  go_wp2_with fail
  refine wp_region_qat [] 11 [] (by kernel_rfl) (by kernel_rfl) ?_
  intro hbc
  simp only [List.take_succ_cons, List.take_zero, List.drop_succ_cons, List.drop_zero]
  repeat (first
    | refine wpQ_pass rfl ?_
    | (refine wpQ_step rfl (fun K hK => ?_)
       go_simp
       first
         | (refine hK _ ?_; clear hK K)
         | (apply Exists.intro
            refine ⟨fun z => ?_, ?_⟩
            focus (first | (go_at_call 103; exact HS.out _))
            refine hK _ ?_
            clear hK K)))
  refine wpQ_nil ⟨?_, ?_⟩
  · exact rfl
  intro  w1 hb1 hF1
  clear hbc
  obtain ⟨hc1, hf1⟩ := bcell hb1
  have hB1 : Below w.heap.size w w1 := below_then (by first | (go_grown; done) | (repeat (first | (with_reducible assumption) | (with_reducible exact Below.refl _ _) | (with_reducible refine below_drewN' ?_ _) | (with_reducible refine Below.drew ?_) | ((with_reducible refine Below.alloc ?_ ?_ _); rotate_left; focus (first | (simp; done) | (simp; omega) | omega)) | ((with_reducible refine Below.setCell ?_ ?_ _); rotate_left; focus (first | (simp; done) | (simp; omega) | omega))))) (by first | (simp; done) | (simp; omega) | omega) hb1
  have hz1a : w.heap.size < w1.heap.size := (by have := hb1.size; first | omega | (simp at this; omega))
  have hz1b : w.heap.size + 1 < w1.heap.size := (by have := hb1.size; first | omega | (simp at this; omega))
  clear hF1
  try simp only [Act.put, List.setIfInBounds_toArray, List.set_cons_succ, List.set_cons_zero]
  have hR : w1.heap[w.heap.size + 1]? = some (.cells #[.int .i64 0, .int .i64 0, .int .i64 0, .int .i64 0, .int .i64 0] 95 (0, 0)) := by
    refine blk_below ?_ hb1 (by simp)
    (repeat (first | (with_reducible exact heap_alloc_new _ _) | (rw [heap_drew1]) | (rw [heap_drewN1]) | (rw [Below.heap_setCell _ _ _ _ (by first | omega | (simp; done) | (simp; omega))]) | (rw [Below.heap_alloc _ _ _ (by first | omega | (simp; done) | (simp; omega))]) | (exact heap_alloc_at (by first | omega | (simp; done) | (simp; omega)))))
  obtain ⟨s0, s1, s2, s3, s4, -⟩ := blk5 (res5 hR (.int .i64 p) (.int .i64 k) (.int .i64 g) (.int .i64 ((N : Int) + H)) (.int .i64 H))
  clear hR
  go_wp2_with fail
  (try simp only [Exit.inBlock, Exit.then]); refine bodyPost_ret (by simp [results, Try.results74, go_sem, s0, s1, s2, s3, s4]; try rfl) rfl ?_
  exact ⟨rfl, by (repeat (first | (with_reducible assumption) | (with_reducible exact Below.refl _ _) | (with_reducible refine below_drewN' ?_ _) | (with_reducible refine Below.drew ?_) | ((with_reducible refine Below.alloc ?_ ?_ _); rotate_left; focus (first | (simp; done) | (simp; omega) | omega)) | ((with_reducible refine Below.setCell ?_ ?_ _); rotate_left; focus (first | (simp; done) | (simp; omega) | omega))))⟩

set_option maxHeartbeats 1000000 in
theorem l07Block_any (p k g : Int) (D H C b : Nat) (w : World) (hC : 1 ≤ C) (hC2 : C ≤ 16) (hD : D ≤ 1500) (hH : H ≤ 64) (hb : b ≤ 16) :
    Calls Try.prog 75 #[.agg #[.int .i64 p, .int .i64 k, .int .i64 g, .int .i64 D, .int .i64 H, .int .i64 C], .int .i64 b] w fun e w' => e = .returned (.agg #[.int .i64 p, .int .i64 k, .int .i64 g, .int .i64 ((shN D C b : Nat) + (H : Int)), .int .i64 H]) ∧ Below w.heap.size w w' := by
  have HS := Lib.hid (fun w => l07Size_any p k g D H C b w hC hC2 hD hb)
  have hl : D / C ≤ 1500 := Nat.le_trans (Nat.div_le_self _ _) hD
  have hsl : shN D C b ≤ 1501 := by unfold shN; split <;> omega
  generalize shN D C b = N at *
  have hw : IntKind.i64.wrap ((N : Int) + H) = (N : Int) + H := wr64 (by omega)
  clear hl
  go_enter Try.func75, Try.ntmps75
  go_wp2_with fail
  refine wp_region_qat [] 11 [] (by kernel_rfl) (by kernel_rfl) ?_
  intro hbc
  simp only [List.take_succ_cons, List.take_zero, List.drop_succ_cons, List.drop_zero]
  repeat (first
    | refine wpQ_pass rfl ?_
    | (refine wpQ_step rfl (fun K hK => ?_)
       go_simp
       first
         | (refine hK _ ?_; clear hK K)
         | (apply Exists.intro
            refine ⟨fun z => ?_, ?_⟩
            focus (first | (go_at_call 104; exact HS.out _))
            refine hK _ ?_
            clear hK K)))
  refine wpQ_nil ⟨?_, ?_⟩
  · exact rfl
  intro  w1 hb1 hF1
  clear hbc
  obtain ⟨hc1, hf1⟩ := bcell hb1
  have hB1 : Below w.heap.size w w1 := below_then (by first | (go_grown; done) | (repeat (first | (with_reducible assumption) | (with_reducible exact Below.refl _ _) | (with_reducible refine below_drewN' ?_ _) | (with_reducible refine Below.drew ?_) | ((with_reducible refine Below.alloc ?_ ?_ _); rotate_left; focus (first | (simp; done) | (simp; omega) | omega)) | ((with_reducible refine Below.setCell ?_ ?_ _); rotate_left; focus (first | (simp; done) | (simp; omega) | omega))))) (by first | (simp; done) | (simp; omega) | omega) hb1
  have hz1a : w.heap.size < w1.heap.size := (by have := hb1.size; first | omega | (simp at this; omega))
  have hz1b : w.heap.size + 1 < w1.heap.size := (by have := hb1.size; first | omega | (simp at this; omega))
  clear hF1
  try simp only [Act.put, List.setIfInBounds_toArray, List.set_cons_succ, List.set_cons_zero]
  have hR : w1.heap[w.heap.size + 1]? = some (.cells #[.int .i64 0, .int .i64 0, .int .i64 0, .int .i64 0, .int .i64 0] 95 (0, 0)) := by
    refine blk_below ?_ hb1 (by simp)
    (repeat (first | (with_reducible exact heap_alloc_new _ _) | (rw [heap_drew1]) | (rw [heap_drewN1]) | (rw [Below.heap_setCell _ _ _ _ (by first | omega | (simp; done) | (simp; omega))]) | (rw [Below.heap_alloc _ _ _ (by first | omega | (simp; done) | (simp; omega))]) | (exact heap_alloc_at (by first | omega | (simp; done) | (simp; omega)))))
  obtain ⟨s0, s1, s2, s3, s4, -⟩ := blk5 (res5 hR (.int .i64 p) (.int .i64 k) (.int .i64 g) (.int .i64 ((N : Int) + H)) (.int .i64 H))
  clear hR
  go_wp2_with fail
  (try simp only [Exit.inBlock, Exit.then]); refine bodyPost_ret (by simp [results, Try.results75, go_sem, s0, s1, s2, s3, s4]; try rfl) rfl ?_
  exact ⟨rfl, by (repeat (first | (with_reducible assumption) | (with_reducible exact Below.refl _ _) | (with_reducible refine below_drewN' ?_ _) | (with_reducible refine Below.drew ?_) | ((with_reducible refine Below.alloc ?_ ?_ _); rotate_left; focus (first | (simp; done) | (simp; omega) | omega)) | ((with_reducible refine Below.setCell ?_ ?_ _); rotate_left; focus (first | (simp; done) | (simp; omega) | omega))))⟩

/-- Is a layout valid? -/
def layB (p k g data chk cnt : Int) : Bool := inR cnt 1 16 && inR data cnt 1500 && inR chk 1 64 && decide (data + cnt * chk ≤ 1500) &&
  codeB p k g ((shN data.toNat cnt.toNat 0 : Nat) + chk) chk && codeB p k g ((shN data.toNat cnt.toNat (cnt.toNat - 1) : Nat) + chk) chk
theorem layB_true {p k g data chk cnt : Int} (h : layB p k g data chk cnt = true) : ∃ D C H : Nat, data = D ∧ cnt = C ∧ chk = H ∧ 1 ≤ C ∧ C ≤ 16 ∧ C ≤ D ∧ D ≤ 1500 ∧ 1 ≤ H ∧ H ≤ 64 ∧ D + C * H ≤ 1500 ∧ fieldB p k g = true := by
  simp only [layB, Bool.and_eq_true, decide_eq_true_eq] at h
  have h1 := inR_true h.1.1.1.1.1
  have h2 := inR_true h.1.1.1.1.2
  have h3 := inR_true h.1.1.1.2
  obtain ⟨C, rfl⟩ := Int.eq_ofNat_of_zero_le (show 0 ≤ cnt by omega)
  obtain ⟨D, rfl⟩ := Int.eq_ofNat_of_zero_le (show 0 ≤ data by omega)
  obtain ⟨H, rfl⟩ := Int.eq_ofNat_of_zero_le (show 0 ≤ chk by omega)
  have h4 := h.1.1.2
  rw [← Int.natCast_mul] at h4
  exact ⟨D, C, H, rfl, rfl, rfl, by omega, by omega, by omega, by omega, by omega, by omega, by omega, codeB_field h.2⟩
theorem total_any (p k g : Int) (D H C : Nat) (w : World) (hC : C ≤ 16) (hD : D ≤ 1500) (hH : H ≤ 64) :
    Calls Try.prog 72 #[.agg #[.int .i64 p, .int .i64 k, .int .i64 g, .int .i64 D, .int .i64 H, .int .i64 C]] w fun e w' => e = .returned (.int .i64 (D + C * H : Nat)) ∧ Below w.heap.size w w' := by
  have hm : (C : Int) * H = ((C * H : Nat) : Int) := by simp
  have hb := Nat.mul_le_mul hC hH
  have e : ((D + C * H : Nat) : Int) = (D : Int) + ((C * H : Nat) : Int) := by omega
  rw [e]
  generalize C * H = M at *
  clear e
  go_enter Try.func72, Try.ntmps72
  go_wp2_with fail
  go_ret
  exact ⟨rfl, by (repeat (first | (with_reducible assumption) | (with_reducible exact Below.refl _ _) | (with_reducible refine below_drewN' ?_ _) | (with_reducible refine Below.drew ?_) | ((with_reducible refine Below.alloc ?_ ?_ _); rotate_left; focus (first | (simp; done) | (simp; omega) | omega)) | ((with_reducible refine Below.setCell ?_ ?_ _); rotate_left; focus (first | (simp; done) | (simp; omega) | omega))))⟩
theorem l07Total_any (p k g : Int) (D H C : Nat) (w : World) (hC : C ≤ 16) (hD : D ≤ 1500) (hH : H ≤ 64) :
    Calls Try.prog 78 #[.agg #[.int .i64 p, .int .i64 k, .int .i64 g, .int .i64 D, .int .i64 H, .int .i64 C]] w fun e w' => e = .returned (.int .i64 (D + C * H : Nat)) ∧ Below w.heap.size w w' := by
  have hm : (C : Int) * H = ((C * H : Nat) : Int) := by simp
  have hb := Nat.mul_le_mul hC hH
  have e : ((D + C * H : Nat) : Int) = (D : Int) + ((C * H : Nat) : Int) := by omega
  rw [e]
  generalize C * H = M at *
  clear e
  go_enter Try.func78, Try.ntmps78
  go_wp2_with fail
  go_ret
  exact ⟨rfl, by (repeat (first | (with_reducible assumption) | (with_reducible exact Below.refl _ _) | (with_reducible refine below_drewN' ?_ _) | (with_reducible refine Below.drew ?_) | ((with_reducible refine Below.alloc ?_ ?_ _); rotate_left; focus (first | (simp; done) | (simp; omega) | omega)) | ((with_reducible refine Below.setCell ?_ ?_ _); rotate_left; focus (first | (simp; done) | (simp; omega) | omega))))⟩
theorem lay_no {p k g data chk cnt : Int} (h : inR cnt 1 16 = false ∨ inR data cnt 1500 = false ∨ inR chk 1 64 = false ∨ ¬ data + cnt * chk ≤ 1500) : layB p k g data chk cnt = false := by
  rcases h with h | h | h | h <;> simp [layB, h]
theorem lay_yes {p k g : Int} {D H C : Nat} (h1 : inR (C : Int) 1 16 = true) (h2 : inR (D : Int) C 1500 = true) (h3 : inR (H : Int) 1 64 = true) (h4 : D + C * H ≤ 1500) :
    layB p k g D H C = (codeB p k g ((shN D C 0 : Nat) + (H : Int)) H && codeB p k g ((shN D C (C - 1) : Nat) + (H : Int)) H) := by
  have h5 : (D : Int) + C * H ≤ 1500 := by rw [← Int.natCast_mul]; omega
  simp [layB, h1, h2, h3, h5]
set_option maxHeartbeats 4000000 in
theorem IsLayout_any (p k g data chk cnt : Int) (w : World) :
    Calls Try.prog 25 #[.agg #[.int .i64 p, .int .i64 k, .int .i64 g, .int .i64 data, .int .i64 chk, .int .i64 cnt]] w fun e w' => e = .returned (.bool (layB p k g data chk cnt)) ∧ Below w.heap.size w w' := by
  cases h1 : inR cnt 1 16
  · have HF := Lib.hid (lay_no (p := p) (k := k) (g := g) (data := data) (chk := chk) (.inl h1))
    go_enter Try.func25, Try.ntmps25
    go_wp2_with (go_at_call 60; refine (inRange_any _ _ _ _).mono ?_; rintro e w' ⟨rfl, rfl⟩)
    go_ret
    exact ⟨ret_bool HF.out.symm, by (repeat (first | (with_reducible assumption) | (with_reducible exact Below.refl _ _) | (with_reducible refine below_drewN' ?_ _) | (with_reducible refine Below.drew ?_) | ((with_reducible refine Below.alloc ?_ ?_ _); rotate_left; focus (first | (simp; done) | (simp; omega) | omega)) | ((with_reducible refine Below.setCell ?_ ?_ _); rotate_left; focus (first | (simp; done) | (simp; omega) | omega))))⟩
  have b1 := inR_true h1
  cases h2 : inR data cnt 1500
  · have HF := Lib.hid (lay_no (p := p) (k := k) (g := g) (cnt := cnt) (chk := chk) (.inr (.inl h2)))
    go_enter Try.func25, Try.ntmps25
    go_wp2_with (go_at_call 60; refine (inRange_any _ _ _ _).mono ?_; rintro e w' ⟨rfl, rfl⟩)
    go_ret
    exact ⟨ret_bool HF.out.symm, by (repeat (first | (with_reducible assumption) | (with_reducible exact Below.refl _ _) | (with_reducible refine below_drewN' ?_ _) | (with_reducible refine Below.drew ?_) | ((with_reducible refine Below.alloc ?_ ?_ _); rotate_left; focus (first | (simp; done) | (simp; omega) | omega)) | ((with_reducible refine Below.setCell ?_ ?_ _); rotate_left; focus (first | (simp; done) | (simp; omega) | omega))))⟩
  have b2 := inR_true h2
  cases h3 : inR chk 1 64
  · have HF := Lib.hid (lay_no (p := p) (k := k) (g := g) (cnt := cnt) (data := data) (.inr (.inr (.inl h3))))
    go_enter Try.func25, Try.ntmps25
    go_wp2_with (go_at_call 60; refine (inRange_any _ _ _ _).mono ?_; rintro e w' ⟨rfl, rfl⟩)
    go_ret
    exact ⟨ret_bool HF.out.symm, by (repeat (first | (with_reducible assumption) | (with_reducible exact Below.refl _ _) | (with_reducible refine below_drewN' ?_ _) | (with_reducible refine Below.drew ?_) | ((with_reducible refine Below.alloc ?_ ?_ _); rotate_left; focus (first | (simp; done) | (simp; omega) | omega)) | ((with_reducible refine Below.setCell ?_ ?_ _); rotate_left; focus (first | (simp; done) | (simp; omega) | omega))))⟩
  have b3 := inR_true h3
  obtain ⟨C, rfl⟩ := Int.eq_ofNat_of_zero_le (show 0 ≤ cnt by omega)
  obtain ⟨D, rfl⟩ := Int.eq_ofNat_of_zero_le (show 0 ≤ data by omega)
  obtain ⟨H, rfl⟩ := Int.eq_ofNat_of_zero_le (show 0 ≤ chk by omega)
  have HT := Lib.hid (fun w => total_any p k g D H C w (by omega) (by omega) (by omega))
  have hm : (C : Int) * H = ((C * H : Nat) : Int) := by simp
  have hmb := Nat.mul_le_mul (show C ≤ 16 by omega) (show H ≤ 64 by omega)
  by_cases h4 : D + C * H ≤ 1500
  · have HF := Lib.hid (lay_yes (p := p) (k := k) (g := g) h1 h2 h3 h4)
    have hw : IntKind.i64.wrap ((C : Int) - 1) = ((C - 1 : Nat) : Int) := by rw [wr64 (by omega)]; omega
    have HL0 := Lib.hid (fun w => lcode_any p k g D H C 0 w (by omega) (by omega) (by omega) (by omega) (by omega))
    have HL1 := Lib.hid (fun w => lcode_any p k g D H C (C - 1) w (by omega) (by omega) (by omega) (by omega) (by omega))
    rw [show ((0 : Nat) : Int) = 0 from rfl] at HL0
    have HC0 := Lib.hid (fun w => IsCode_any p k g ((shN D C 0 : Nat) + (H : Int)) H w)
    have HC1 := Lib.hid (fun w => IsCode_any p k g ((shN D C (C - 1) : Nat) + (H : Int)) H w)
    have hcm : (C : Int) - 1 = ((C - 1 : Nat) : Int) := by omega
    generalize codeB p k g ((shN D C 0 : Nat) + (H : Int)) H = F0 at *
    generalize codeB p k g ((shN D C (C - 1) : Nat) + (H : Int)) H = F1 at *
    generalize shN D C 0 = N0 at *
    generalize shN D C (C - 1) = N1 at *
    generalize C * H = M at *
    generalize hCE : C - 1 = E at *
    have HCE := Lib.hid hCE
    clear hCE
    cases F0
    · go_enter Try.func25, Try.ntmps25
      go_wp2_with first | (go_at_call 60; refine (inRange_any _ _ _ _).mono ?_; rintro e w' ⟨rfl, rfl⟩) | (go_at_call 72; with_reducible refine (HT.out _).mono ?_; rintro e9 w9 ⟨rfl, hb9⟩; obtain ⟨hc9, hf9⟩ := bcell hb9; have hB9 : Below w.heap.size w w9 := (below_then (by first | (go_grown; done) | (repeat (first | (with_reducible assumption) | (with_reducible exact Below.refl _ _) | (with_reducible refine below_drewN' ?_ _) | (with_reducible refine Below.drew ?_) | ((with_reducible refine Below.alloc ?_ ?_ _); rotate_left; focus (first | (simp; done) | (simp; omega) | omega)) | ((with_reducible refine Below.setCell ?_ ?_ _); rotate_left; focus (first | (simp; done) | (simp; omega) | omega))))) (by first | omega | (simp; done) | (simp; omega)) hb9); have hz9a : w.heap.size < w9.heap.size := (by have := hb9.size; first | omega | (simp at this; omega)))
      (go_at_call 74; with_reducible refine (HL0.out _).mono ?_; rintro e1 w1 ⟨rfl, hb1⟩; obtain ⟨hc1, hf1⟩ := bcell hb1; have hB1 : Below w.heap.size w w1 := (below_then (by first | (go_grown; done) | (repeat (first | (with_reducible assumption) | (with_reducible exact Below.refl _ _) | (with_reducible refine below_drewN' ?_ _) | (with_reducible refine Below.drew ?_) | ((with_reducible refine Below.alloc ?_ ?_ _); rotate_left; focus (first | (simp; done) | (simp; omega) | omega)) | ((with_reducible refine Below.setCell ?_ ?_ _); rotate_left; focus (first | (simp; done) | (simp; omega) | omega))))) (by first | omega | (simp; done) | (simp; omega)) hb1); have hz1a : w.heap.size < w1.heap.size := (by have := hb1.size; first | omega | (simp at this; omega)))
      go_wp2_with fail
      (go_at_call 73; with_reducible refine (HC0.out _).mono ?_; rintro e2 w2 ⟨rfl, hb2⟩; obtain ⟨hc2, hf2⟩ := bcell hb2; have hB2 : Below w.heap.size w w2 := (below_then (by first | (go_grown; done) | (repeat (first | (with_reducible assumption) | (with_reducible exact Below.refl _ _) | (with_reducible refine below_drewN' ?_ _) | (with_reducible refine Below.drew ?_) | ((with_reducible refine Below.alloc ?_ ?_ _); rotate_left; focus (first | (simp; done) | (simp; omega) | omega)) | ((with_reducible refine Below.setCell ?_ ?_ _); rotate_left; focus (first | (simp; done) | (simp; omega) | omega))))) (by first | omega | (simp; done) | (simp; omega)) hb2); have hz2a : w.heap.size < w2.heap.size := (by have := hb2.size; first | omega | (simp at this; omega)))
      go_wp2_with fail
      go_ret
      exact ⟨ret_bool (by rw [HF.out]; rfl), by (repeat (first | (with_reducible assumption) | (with_reducible exact Below.refl _ _) | (with_reducible refine below_drewN' ?_ _) | (with_reducible refine Below.drew ?_) | ((with_reducible refine Below.alloc ?_ ?_ _); rotate_left; focus (first | (simp; done) | (simp; omega) | omega)) | ((with_reducible refine Below.setCell ?_ ?_ _); rotate_left; focus (first | (simp; done) | (simp; omega) | omega))))⟩
    · go_enter Try.func25, Try.ntmps25
      go_wp2_with first | (go_at_call 60; refine (inRange_any _ _ _ _).mono ?_; rintro e w' ⟨rfl, rfl⟩) | (go_at_call 72; with_reducible refine (HT.out _).mono ?_; rintro e9 w9 ⟨rfl, hb9⟩; obtain ⟨hc9, hf9⟩ := bcell hb9; have hB9 : Below w.heap.size w w9 := (below_then (by first | (go_grown; done) | (repeat (first | (with_reducible assumption) | (with_reducible exact Below.refl _ _) | (with_reducible refine below_drewN' ?_ _) | (with_reducible refine Below.drew ?_) | ((with_reducible refine Below.alloc ?_ ?_ _); rotate_left; focus (first | (simp; done) | (simp; omega) | omega)) | ((with_reducible refine Below.setCell ?_ ?_ _); rotate_left; focus (first | (simp; done) | (simp; omega) | omega))))) (by first | omega | (simp; done) | (simp; omega)) hb9); have hz9a : w.heap.size < w9.heap.size := (by have := hb9.size; first | omega | (simp at this; omega)))
      (go_at_call 74; with_reducible refine (HL0.out _).mono ?_; rintro e1 w1 ⟨rfl, hb1⟩; obtain ⟨hc1, hf1⟩ := bcell hb1; have hB1 : Below w.heap.size w w1 := (below_then (by first | (go_grown; done) | (repeat (first | (with_reducible assumption) | (with_reducible exact Below.refl _ _) | (with_reducible refine below_drewN' ?_ _) | (with_reducible refine Below.drew ?_) | ((with_reducible refine Below.alloc ?_ ?_ _); rotate_left; focus (first | (simp; done) | (simp; omega) | omega)) | ((with_reducible refine Below.setCell ?_ ?_ _); rotate_left; focus (first | (simp; done) | (simp; omega) | omega))))) (by first | omega | (simp; done) | (simp; omega)) hb1); have hz1a : w.heap.size < w1.heap.size := (by have := hb1.size; first | omega | (simp at this; omega)))
      go_wp2_with fail
      (go_at_call 73; with_reducible refine (HC0.out _).mono ?_; rintro e2 w2 ⟨rfl, hb2⟩; obtain ⟨hc2, hf2⟩ := bcell hb2; have hB2 : Below w.heap.size w w2 := (below_then (by first | (go_grown; done) | (repeat (first | (with_reducible assumption) | (with_reducible exact Below.refl _ _) | (with_reducible refine below_drewN' ?_ _) | (with_reducible refine Below.drew ?_) | ((with_reducible refine Below.alloc ?_ ?_ _); rotate_left; focus (first | (simp; done) | (simp; omega) | omega)) | ((with_reducible refine Below.setCell ?_ ?_ _); rotate_left; focus (first | (simp; done) | (simp; omega) | omega))))) (by first | omega | (simp; done) | (simp; omega)) hb2); have hz2a : w.heap.size < w2.heap.size := (by have := hb2.size; first | omega | (simp at this; omega)))
      go_wp2_with fail
      (go_at_call 74; with_reducible refine (HL1.out _).mono ?_; rintro e3 w3 ⟨rfl, hb3⟩; obtain ⟨hc3, hf3⟩ := bcell hb3; have hB3 : Below w.heap.size w w3 := (below_then (by first | (go_grown; done) | (repeat (first | (with_reducible assumption) | (with_reducible exact Below.refl _ _) | (with_reducible refine below_drewN' ?_ _) | (with_reducible refine Below.drew ?_) | ((with_reducible refine Below.alloc ?_ ?_ _); rotate_left; focus (first | (simp; done) | (simp; omega) | omega)) | ((with_reducible refine Below.setCell ?_ ?_ _); rotate_left; focus (first | (simp; done) | (simp; omega) | omega))))) (by first | omega | (simp; done) | (simp; omega)) hb3); have hz3a : w.heap.size < w3.heap.size := (by have := hb3.size; first | omega | (simp at this; omega)))
      go_wp2_with fail
      (go_at_call 73; with_reducible refine (HC1.out _).mono ?_; rintro e4 w4 ⟨rfl, hb4⟩; obtain ⟨hc4, hf4⟩ := bcell hb4; have hB4 : Below w.heap.size w w4 := (below_then (by first | (go_grown; done) | (repeat (first | (with_reducible assumption) | (with_reducible exact Below.refl _ _) | (with_reducible refine below_drewN' ?_ _) | (with_reducible refine Below.drew ?_) | ((with_reducible refine Below.alloc ?_ ?_ _); rotate_left; focus (first | (simp; done) | (simp; omega) | omega)) | ((with_reducible refine Below.setCell ?_ ?_ _); rotate_left; focus (first | (simp; done) | (simp; omega) | omega))))) (by first | omega | (simp; done) | (simp; omega)) hb4); have hz4a : w.heap.size < w4.heap.size := (by have := hb4.size; first | omega | (simp at this; omega)))
      go_wp2_with fail
      go_ret
      exact ⟨ret_bool (by rw [HF.out]; rfl), by (repeat (first | (with_reducible assumption) | (with_reducible exact Below.refl _ _) | (with_reducible refine below_drewN' ?_ _) | (with_reducible refine Below.drew ?_) | ((with_reducible refine Below.alloc ?_ ?_ _); rotate_left; focus (first | (simp; done) | (simp; omega) | omega)) | ((with_reducible refine Below.setCell ?_ ?_ _); rotate_left; focus (first | (simp; done) | (simp; omega) | omega))))⟩
  · have HF := Lib.hid (lay_no (p := p) (k := k) (g := g) (data := D) (cnt := C) (chk := H) (.inr (.inr (.inr (by rw [hm]; omega)))))
    generalize C * H = M at *
    go_enter Try.func25, Try.ntmps25
    go_wp2_with first | (go_at_call 60; refine (inRange_any _ _ _ _).mono ?_; rintro e w' ⟨rfl, rfl⟩) | (go_at_call 72; with_reducible refine (HT.out _).mono ?_; rintro e9 w9 ⟨rfl, hb9⟩; obtain ⟨hc9, hf9⟩ := bcell hb9; have hB9 : Below w.heap.size w w9 := (below_then (by first | (go_grown; done) | (repeat (first | (with_reducible assumption) | (with_reducible exact Below.refl _ _) | (with_reducible refine below_drewN' ?_ _) | (with_reducible refine Below.drew ?_) | ((with_reducible refine Below.alloc ?_ ?_ _); rotate_left; focus (first | (simp; done) | (simp; omega) | omega)) | ((with_reducible refine Below.setCell ?_ ?_ _); rotate_left; focus (first | (simp; done) | (simp; omega) | omega))))) (by first | omega | (simp; done) | (simp; omega)) hb9); have hz9a : w.heap.size < w9.heap.size := (by have := hb9.size; first | omega | (simp at this; omega)))
    go_ret
    exact ⟨ret_bool HF.out.symm, by (repeat (first | (with_reducible assumption) | (with_reducible exact Below.refl _ _) | (with_reducible refine below_drewN' ?_ _) | (with_reducible refine Below.drew ?_) | ((with_reducible refine Below.alloc ?_ ?_ _); rotate_left; focus (first | (simp; done) | (simp; omega) | omega)) | ((with_reducible refine Below.setCell ?_ ?_ _); rotate_left; focus (first | (simp; done) | (simp; omega) | omega))))⟩

set_option maxHeartbeats 4000000 in
theorem sIsLayout_any (p k g data chk cnt : Int) (w : World) :
    Calls Try.prog 49 #[.agg #[.int .i64 p, .int .i64 k, .int .i64 g, .int .i64 data, .int .i64 chk, .int .i64 cnt]] w fun e w' => e = .returned (.bool (layB p k g data chk cnt)) ∧ Below w.heap.size w w' := by
  cases h1 : inR cnt 1 16
  · have HF := Lib.hid (lay_no (p := p) (k := k) (g := g) (data := data) (chk := chk) (.inl h1))
    go_enter Try.func49, Try.ntmps49
    go_wp2_with (go_at_call 47; refine (l01In_any _ _ _ _).mono ?_; rintro e w' ⟨rfl, rfl⟩)
    go_ret
    exact ⟨ret_bool HF.out.symm, by (repeat (first | (with_reducible assumption) | (with_reducible exact Below.refl _ _) | (with_reducible refine below_drewN' ?_ _) | (with_reducible refine Below.drew ?_) | ((with_reducible refine Below.alloc ?_ ?_ _); rotate_left; focus (first | (simp; done) | (simp; omega) | omega)) | ((with_reducible refine Below.setCell ?_ ?_ _); rotate_left; focus (first | (simp; done) | (simp; omega) | omega))))⟩
  have b1 := inR_true h1
  cases h2 : inR data cnt 1500
  · have HF := Lib.hid (lay_no (p := p) (k := k) (g := g) (cnt := cnt) (chk := chk) (.inr (.inl h2)))
    go_enter Try.func49, Try.ntmps49
    go_wp2_with (go_at_call 47; refine (l01In_any _ _ _ _).mono ?_; rintro e w' ⟨rfl, rfl⟩)
    go_ret
    exact ⟨ret_bool HF.out.symm, by (repeat (first | (with_reducible assumption) | (with_reducible exact Below.refl _ _) | (with_reducible refine below_drewN' ?_ _) | (with_reducible refine Below.drew ?_) | ((with_reducible refine Below.alloc ?_ ?_ _); rotate_left; focus (first | (simp; done) | (simp; omega) | omega)) | ((with_reducible refine Below.setCell ?_ ?_ _); rotate_left; focus (first | (simp; done) | (simp; omega) | omega))))⟩
  have b2 := inR_true h2
  cases h3 : inR chk 1 64
  · have HF := Lib.hid (lay_no (p := p) (k := k) (g := g) (cnt := cnt) (data := data) (.inr (.inr (.inl h3))))
    go_enter Try.func49, Try.ntmps49
    go_wp2_with (go_at_call 47; refine (l01In_any _ _ _ _).mono ?_; rintro e w' ⟨rfl, rfl⟩)
    go_ret
    exact ⟨ret_bool HF.out.symm, by (repeat (first | (with_reducible assumption) | (with_reducible exact Below.refl _ _) | (with_reducible refine below_drewN' ?_ _) | (with_reducible refine Below.drew ?_) | ((with_reducible refine Below.alloc ?_ ?_ _); rotate_left; focus (first | (simp; done) | (simp; omega) | omega)) | ((with_reducible refine Below.setCell ?_ ?_ _); rotate_left; focus (first | (simp; done) | (simp; omega) | omega))))⟩
  have b3 := inR_true h3
  obtain ⟨C, rfl⟩ := Int.eq_ofNat_of_zero_le (show 0 ≤ cnt by omega)
  obtain ⟨D, rfl⟩ := Int.eq_ofNat_of_zero_le (show 0 ≤ data by omega)
  obtain ⟨H, rfl⟩ := Int.eq_ofNat_of_zero_le (show 0 ≤ chk by omega)
  skip
  have hm : (C : Int) * H = ((C * H : Nat) : Int) := by simp
  have hmb := Nat.mul_le_mul (show C ≤ 16 by omega) (show H ≤ 64 by omega)
  by_cases h4 : D + C * H ≤ 1500
  · have HF := Lib.hid (lay_yes (p := p) (k := k) (g := g) h1 h2 h3 h4)
    have hw : IntKind.i64.wrap ((C : Int) - 1) = ((C - 1 : Nat) : Int) := by rw [wr64 (by omega)]; omega
    have HL0 := Lib.hid (fun w => l07Block_any p k g D H C 0 w (by omega) (by omega) (by omega) (by omega) (by omega))
    have HL1 := Lib.hid (fun w => l07Block_any p k g D H C (C - 1) w (by omega) (by omega) (by omega) (by omega) (by omega))
    rw [show ((0 : Nat) : Int) = 0 from rfl] at HL0
    have HC0 := Lib.hid (fun w => sIsCode_any p k g ((shN D C 0 : Nat) + (H : Int)) H w)
    have HC1 := Lib.hid (fun w => sIsCode_any p k g ((shN D C (C - 1) : Nat) + (H : Int)) H w)
    have hcm : (C : Int) - 1 = ((C - 1 : Nat) : Int) := by omega
    generalize codeB p k g ((shN D C 0 : Nat) + (H : Int)) H = F0 at *
    generalize codeB p k g ((shN D C (C - 1) : Nat) + (H : Int)) H = F1 at *
    generalize shN D C 0 = N0 at *
    generalize shN D C (C - 1) = N1 at *
    generalize C * H = M at *
    generalize hCE : C - 1 = E at *
    have HCE := Lib.hid hCE
    clear hCE
    cases F0
    · go_enter Try.func49, Try.ntmps49
      go_wp2_with first | (go_at_call 47; refine (l01In_any _ _ _ _).mono ?_; rintro e w' ⟨rfl, rfl⟩)
      (go_at_call 75; with_reducible refine (HL0.out _).mono ?_; rintro e1 w1 ⟨rfl, hb1⟩; obtain ⟨hc1, hf1⟩ := bcell hb1; have hB1 : Below w.heap.size w w1 := (below_then (by first | (go_grown; done) | (repeat (first | (with_reducible assumption) | (with_reducible exact Below.refl _ _) | (with_reducible refine below_drewN' ?_ _) | (with_reducible refine Below.drew ?_) | ((with_reducible refine Below.alloc ?_ ?_ _); rotate_left; focus (first | (simp; done) | (simp; omega) | omega)) | ((with_reducible refine Below.setCell ?_ ?_ _); rotate_left; focus (first | (simp; done) | (simp; omega) | omega))))) (by first | omega | (simp; done) | (simp; omega)) hb1); have hz1a : w.heap.size < w1.heap.size := (by have := hb1.size; first | omega | (simp at this; omega)))
      go_wp2_with fail
      (go_at_call 89; with_reducible refine (HC0.out _).mono ?_; rintro e2 w2 ⟨rfl, hb2⟩; obtain ⟨hc2, hf2⟩ := bcell hb2; have hB2 : Below w.heap.size w w2 := (below_then (by first | (go_grown; done) | (repeat (first | (with_reducible assumption) | (with_reducible exact Below.refl _ _) | (with_reducible refine below_drewN' ?_ _) | (with_reducible refine Below.drew ?_) | ((with_reducible refine Below.alloc ?_ ?_ _); rotate_left; focus (first | (simp; done) | (simp; omega) | omega)) | ((with_reducible refine Below.setCell ?_ ?_ _); rotate_left; focus (first | (simp; done) | (simp; omega) | omega))))) (by first | omega | (simp; done) | (simp; omega)) hb2); have hz2a : w.heap.size < w2.heap.size := (by have := hb2.size; first | omega | (simp at this; omega)))
      go_wp2_with fail
      go_ret
      exact ⟨ret_bool (by rw [HF.out]; rfl), by (repeat (first | (with_reducible assumption) | (with_reducible exact Below.refl _ _) | (with_reducible refine below_drewN' ?_ _) | (with_reducible refine Below.drew ?_) | ((with_reducible refine Below.alloc ?_ ?_ _); rotate_left; focus (first | (simp; done) | (simp; omega) | omega)) | ((with_reducible refine Below.setCell ?_ ?_ _); rotate_left; focus (first | (simp; done) | (simp; omega) | omega))))⟩
    · go_enter Try.func49, Try.ntmps49
      go_wp2_with first | (go_at_call 47; refine (l01In_any _ _ _ _).mono ?_; rintro e w' ⟨rfl, rfl⟩)
      (go_at_call 75; with_reducible refine (HL0.out _).mono ?_; rintro e1 w1 ⟨rfl, hb1⟩; obtain ⟨hc1, hf1⟩ := bcell hb1; have hB1 : Below w.heap.size w w1 := (below_then (by first | (go_grown; done) | (repeat (first | (with_reducible assumption) | (with_reducible exact Below.refl _ _) | (with_reducible refine below_drewN' ?_ _) | (with_reducible refine Below.drew ?_) | ((with_reducible refine Below.alloc ?_ ?_ _); rotate_left; focus (first | (simp; done) | (simp; omega) | omega)) | ((with_reducible refine Below.setCell ?_ ?_ _); rotate_left; focus (first | (simp; done) | (simp; omega) | omega))))) (by first | omega | (simp; done) | (simp; omega)) hb1); have hz1a : w.heap.size < w1.heap.size := (by have := hb1.size; first | omega | (simp at this; omega)))
      go_wp2_with fail
      (go_at_call 89; with_reducible refine (HC0.out _).mono ?_; rintro e2 w2 ⟨rfl, hb2⟩; obtain ⟨hc2, hf2⟩ := bcell hb2; have hB2 : Below w.heap.size w w2 := (below_then (by first | (go_grown; done) | (repeat (first | (with_reducible assumption) | (with_reducible exact Below.refl _ _) | (with_reducible refine below_drewN' ?_ _) | (with_reducible refine Below.drew ?_) | ((with_reducible refine Below.alloc ?_ ?_ _); rotate_left; focus (first | (simp; done) | (simp; omega) | omega)) | ((with_reducible refine Below.setCell ?_ ?_ _); rotate_left; focus (first | (simp; done) | (simp; omega) | omega))))) (by first | omega | (simp; done) | (simp; omega)) hb2); have hz2a : w.heap.size < w2.heap.size := (by have := hb2.size; first | omega | (simp at this; omega)))
      go_wp2_with fail
      (go_at_call 75; with_reducible refine (HL1.out _).mono ?_; rintro e3 w3 ⟨rfl, hb3⟩; obtain ⟨hc3, hf3⟩ := bcell hb3; have hB3 : Below w.heap.size w w3 := (below_then (by first | (go_grown; done) | (repeat (first | (with_reducible assumption) | (with_reducible exact Below.refl _ _) | (with_reducible refine below_drewN' ?_ _) | (with_reducible refine Below.drew ?_) | ((with_reducible refine Below.alloc ?_ ?_ _); rotate_left; focus (first | (simp; done) | (simp; omega) | omega)) | ((with_reducible refine Below.setCell ?_ ?_ _); rotate_left; focus (first | (simp; done) | (simp; omega) | omega))))) (by first | omega | (simp; done) | (simp; omega)) hb3); have hz3a : w.heap.size < w3.heap.size := (by have := hb3.size; first | omega | (simp at this; omega)))
      go_wp2_with fail
      (go_at_call 89; with_reducible refine (HC1.out _).mono ?_; rintro e4 w4 ⟨rfl, hb4⟩; obtain ⟨hc4, hf4⟩ := bcell hb4; have hB4 : Below w.heap.size w w4 := (below_then (by first | (go_grown; done) | (repeat (first | (with_reducible assumption) | (with_reducible exact Below.refl _ _) | (with_reducible refine below_drewN' ?_ _) | (with_reducible refine Below.drew ?_) | ((with_reducible refine Below.alloc ?_ ?_ _); rotate_left; focus (first | (simp; done) | (simp; omega) | omega)) | ((with_reducible refine Below.setCell ?_ ?_ _); rotate_left; focus (first | (simp; done) | (simp; omega) | omega))))) (by first | omega | (simp; done) | (simp; omega)) hb4); have hz4a : w.heap.size < w4.heap.size := (by have := hb4.size; first | omega | (simp at this; omega)))
      go_wp2_with fail
      go_ret
      exact ⟨ret_bool (by rw [HF.out]; rfl), by (repeat (first | (with_reducible assumption) | (with_reducible exact Below.refl _ _) | (with_reducible refine below_drewN' ?_ _) | (with_reducible refine Below.drew ?_) | ((with_reducible refine Below.alloc ?_ ?_ _); rotate_left; focus (first | (simp; done) | (simp; omega) | omega)) | ((with_reducible refine Below.setCell ?_ ?_ _); rotate_left; focus (first | (simp; done) | (simp; omega) | omega))))⟩
  · have HF := Lib.hid (lay_no (p := p) (k := k) (g := g) (data := D) (cnt := C) (chk := H) (.inr (.inr (.inr (by rw [hm]; omega)))))
    generalize C * H = M at *
    go_enter Try.func49, Try.ntmps49
    go_wp2_with first | (go_at_call 47; refine (l01In_any _ _ _ _).mono ?_; rintro e w' ⟨rfl, rfl⟩)
    go_ret
    exact ⟨ret_bool HF.out.symm, by (repeat (first | (with_reducible assumption) | (with_reducible exact Below.refl _ _) | (with_reducible refine below_drewN' ?_ _) | (with_reducible refine Below.drew ?_) | ((with_reducible refine Below.alloc ?_ ?_ _); rotate_left; focus (first | (simp; done) | (simp; omega) | omega)) | ((with_reducible refine Below.setCell ?_ ?_ _); rotate_left; focus (first | (simp; done) | (simp; omega) | omega))))⟩

end Go.Proofs.Ytbgcbjfimjfbpaa
