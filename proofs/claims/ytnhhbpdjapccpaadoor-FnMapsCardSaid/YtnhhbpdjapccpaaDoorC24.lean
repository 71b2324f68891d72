/-
  Contracts of chapter 24: spots and quads.
-/
import Derived.Test.YtnhhbpdjapccpaaDoorC01
import Derived.Test.YtnhhbpdjapccpaaDoorGeo
import Derived.Test.YtnhhbpdjapccpaaDoorRegion
namespace Go.Proofs.YtnhhbpdjapccpaaDoor
open Go.RowKit

set_option maxHeartbeats 400000 in
theorem floorDiv_any (a b : Int) (w : World) (hb : 0 < b) (hb' : b ≤ 9223372036854775807) (h0 : -9223372036854775807 ≤ a) (h1 : a ≤ 9223372036854775807) :
    Calls Tryd.prog 46 #[.int .i64 a, .int .i64 b] w fun e w' => e = .returned (.int .i64 (a / b)) ∧ w = w' := by
  have hf := floor_eq (a := a) hb
  have hr := tdiv_rg 9223372036854775807 (by omega) (by omega) (a := a) (b := b)
  have h3 : (a.tmod b).natAbs < b.natAbs := natAbs_tmod_lt a (by omega)
  by_cases hm : a.tmod b < 0
  · rw [if_pos hm] at hf
    have hlow : -9223372036854775806 ≤ a.tdiv b := by
      have := ediv_rg hb 9223372036854775807 (by omega) (by omega) (a := a)
      omega
    have HF := Lib.hid hf
    clear hf
    go_enter Tryd.func46, Tryd.ntmps46
    go_wp2
    all_goals (go_ret; exact ⟨ret_int (by have := HF.out; omega), rfl⟩)
  · rw [if_neg hm] at hf
    have HF := Lib.hid hf
    clear hf
    go_enter Tryd.func46, Tryd.ntmps46
    go_wp2
    all_goals (go_ret; exact ⟨ret_int (by have := HF.out; omega), rfl⟩)
set_option maxHeartbeats 400000 in
theorem minus_any (x y u v : Int) (w : World) (h1 : -4611686018427387904 ≤ x) (h2 : x ≤ 4611686018427387903) (h3 : -4611686018427387904 ≤ y) (h4 : y ≤ 4611686018427387903) (h5 : -4611686018427387904 ≤ u) (h6 : u ≤ 4611686018427387903) (h7 : -4611686018427387904 ≤ v) (h8 : v ≤ 4611686018427387903) :
    Calls Tryd.prog 39 #[.agg #[.int .i64 x, .int .i64 y], .agg #[.int .i64 u, .int .i64 v]] w fun e w' => e = .returned (.agg #[.int .i64 (x - u), .int .i64 (y - v)]) ∧ Below w.heap.size w w' := by
  go_enter Tryd.func39, Tryd.ntmps39
  go_wp2
  go_returns
  exact ⟨rfl, by go_grown⟩
set_option maxHeartbeats 400000 in
theorem plus_any (x y u v : Int) (w : World) (h1 : -4611686018427387904 ≤ x) (h2 : x ≤ 4611686018427387903) (h3 : -4611686018427387904 ≤ y) (h4 : y ≤ 4611686018427387903) (h5 : -4611686018427387904 ≤ u) (h6 : u ≤ 4611686018427387903) (h7 : -4611686018427387904 ≤ v) (h8 : v ≤ 4611686018427387903) :
    Calls Tryd.prog 40 #[.agg #[.int .i64 x, .int .i64 y], .agg #[.int .i64 u, .int .i64 v]] w fun e w' => e = .returned (.agg #[.int .i64 (x + u), .int .i64 (y + v)]) ∧ Below w.heap.size w w' := by
  go_enter Tryd.func40, Tryd.ntmps40
  go_wp2
  go_returns
  exact ⟨rfl, by go_grown⟩
set_option maxHeartbeats 400000 in
theorem IsSpot_any (x y : Int) (w : World) :
    Calls Tryd.prog 27 #[.agg #[.int .i64 x, .int .i64 y]] w fun e w' => e = .returned (.bool (spotB x y)) ∧ Below w.heap.size w w' := by
  go_enter Tryd.func27, Tryd.ntmps27
  go_wp2_with (go_at_call 31; refine (inRange_any _ _ _ _).mono ?_; rintro e w' ⟨rfl, rfl⟩)
  all_goals (go_ret; exact ⟨ret_bool (by unfold spotB; simp [*]), by go_grown⟩)
set_option maxHeartbeats 400000 in
theorem sIsSpot_any (x y : Int) (w : World) :
    Calls Tryd.prog 43 #[.agg #[.int .i64 x, .int .i64 y]] w fun e w' => e = .returned (.bool (spotB x y)) ∧ Below w.heap.size w w' := by
  go_enter Tryd.func43, Tryd.ntmps43
  go_wp2_with (go_at_call 33; refine (l01In_any _ _ _ _).mono ?_; rintro e w' ⟨rfl, rfl⟩)
  all_goals (go_ret; exact ⟨ret_bool (by unfold spotB; simp [*]), by go_grown⟩)
theorem turn_rg {px py qx qy rx ry : Int} (h1 : -4000 ≤ px) (h2 : px ≤ 4000) (h3 : -4000 ≤ py) (h4 : py ≤ 4000) (h5 : -4000 ≤ qx) (h6 : qx ≤ 4000) (h7 : -4000 ≤ qy) (h8 : qy ≤ 4000) (h9 : -4000 ≤ rx) (h10 : rx ≤ 4000) (h11 : -4000 ≤ ry) (h12 : ry ≤ 4000) :
    (-64000000 ≤ (qx - px) * (ry - qy) ∧ (qx - px) * (ry - qy) ≤ 64000000) ∧ (-64000000 ≤ (qy - py) * (rx - qx) ∧ (qy - py) * (rx - qx) ≤ 64000000) := by
  have a := mul_rg (a := qx - px) (b := ry - qy) 8000 8000 (by omega) (by omega) (by omega) (by omega)
  have b := mul_rg (a := qy - py) (b := rx - qx) 8000 8000 (by omega) (by omega) (by omega) (by omega)
  simp only [Nat.reduceMul] at a b
  omega
set_option maxHeartbeats 400000 in
theorem turn_any (px py qx qy rx ry : Int) (w : World) (h1 : -4000 ≤ px) (h2 : px ≤ 4000) (h3 : -4000 ≤ py) (h4 : py ≤ 4000) (h5 : -4000 ≤ qx) (h6 : qx ≤ 4000) (h7 : -4000 ≤ qy) (h8 : qy ≤ 4000) (h9 : -4000 ≤ rx) (h10 : rx ≤ 4000) (h11 : -4000 ≤ ry) (h12 : ry ≤ 4000) :
    Calls Tryd.prog 28 #[.agg #[.int .i64 px, .int .i64 py], .agg #[.int .i64 qx, .int .i64 qy], .agg #[.int .i64 rx, .int .i64 ry]] w fun e w' => e = .returned (.int .i64 (turnI px py qx qy rx ry)) ∧ Below w.heap.size w w' := by
  have ht := turn_rg h1 h2 h3 h4 h5 h6 h7 h8 h9 h10 h11 h12
  obtain ⟨⟨t1, t2⟩, t3, t4⟩ := ht
  go_enter Tryd.func28, Tryd.ntmps28
  go_wp2_with fail
  refine wp_region_qat [] 8 [Mkr.blk (fun g => .pointer (some ⟨g, 0, none⟩)) (.cells #[.int .i64 0, .int .i64 0] 31), Mkr.blk (fun g => .pointer (some ⟨g, 0, none⟩)) (.cells #[.int .i64 0, .int .i64 0] 31)] (by kernel_rfl) (by kernel_rfl) ?_
  intro hbc
  simp only [List.take_succ_cons, List.take_zero, List.drop_succ_cons, List.drop_zero]
  repeat (first
    | refine wpQ_pass rfl ?_
    | (refine wpQ_step rfl (fun K hK => ?_)
       go_simp
       first
         | (refine hK _ ?_; clear hK K)
         | (apply Exists.intro
            refine ⟨fun z => ?_, ?_⟩
            focus (first | (go_at_call 39; exact minus_any _ _ _ _ _ (by omega) (by omega) (by omega) (by omega) (by omega) (by omega) (by omega) (by omega)))
            refine hK _ ?_
            clear hK K)))
  refine wpQ_nil ⟨?_, ?_⟩
  · refine ⟨fun z => ?_, fun z => ?_, rfl⟩
    · set_option maxRecDepth 100000 in refine makes_blk ?_
      go_simp
    · set_option maxRecDepth 100000 in refine makes_blk ?_
      go_simp
  intro u1a g1a hi1a hg1a hl1a n1a u1b g1b hi1b hg1b hl1b n1b w1 hb1 hF1
  clear hbc
  obtain ⟨hc1, hf1⟩ := bcell hb1
  obtain ⟨⟨_, hs1a, ⟨rfl, rfl, hF1a⟩⟩, hs1b, ⟨rfl, rfl, hF1b⟩⟩ := hF1
  have hB1 : Below w.heap.size w w1 := below_then (by first | (go_grown; done) | (repeat (first | (with_reducible assumption) | (with_reducible exact Below.refl _ _) | (with_reducible refine below_drewN' ?_ _) | (with_reducible refine Below.drew ?_) | ((with_reducible refine Below.alloc ?_ ?_ _); rotate_left; focus (first | (simp; done) | (simp; omega) | omega)) | ((with_reducible refine Below.setCell ?_ ?_ _); rotate_left; focus (first | (simp; done) | (simp; omega) | omega))))) (by first | (simp; done) | (simp; omega) | omega) hb1
  have ne1b1a : g1b ≠ g1a := by intro h; have := n1b (g1a, g1a + 1) (by simp); simp at this; omega
  have hcg1a := blk_cell hF1a
  have hfg1a := blk_frozen hF1a
  try simp only [World.size_alloc] at hg1a
  have hcg1b := blk_cell hF1b
  have hfg1b := blk_frozen hF1b
  try simp only [World.size_alloc] at hg1b
  clear n1a n1b
  try simp only [Act.put, List.setIfInBounds_toArray, List.set_cons_succ, List.set_cons_zero]
  go_wp2
  go_ret
  exact ⟨rfl, by go_grown⟩
set_option maxHeartbeats 400000 in
theorem l24Turn_any (px py qx qy rx ry : Int) (w : World) (h1 : -4000 ≤ px) (h2 : px ≤ 4000) (h3 : -4000 ≤ py) (h4 : py ≤ 4000) (h5 : -4000 ≤ qx) (h6 : qx ≤ 4000) (h7 : -4000 ≤ qy) (h8 : qy ≤ 4000) (h9 : -4000 ≤ rx) (h10 : rx ≤ 4000) (h11 : -4000 ≤ ry) (h12 : ry ≤ 4000) :
    Calls Tryd.prog 44 #[.agg #[.int .i64 px, .int .i64 py], .agg #[.int .i64 qx, .int .i64 qy], .agg #[.int .i64 rx, .int .i64 ry]] w fun e w' => e = .returned (.int .i64 (turnI px py qx qy rx ry)) ∧ Below w.heap.size w w' := by
  have ht := turn_rg h1 h2 h3 h4 h5 h6 h7 h8 h9 h10 h11 h12
  obtain ⟨⟨t1, t2⟩, t3, t4⟩ := ht
  go_enter Tryd.func44, Tryd.ntmps44
  go_wp2
  go_ret
  exact ⟨rfl, by go_grown⟩
end Go.Proofs.YtnhhbpdjapccpaaDoor
