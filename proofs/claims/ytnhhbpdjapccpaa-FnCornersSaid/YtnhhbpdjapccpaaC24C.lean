/-
  Contracts of chapter 24: the corners of a symbol.
-/
import Derived.Test.YtnhhbpdjapccpaaC24R
import Derived.Test.YtnhhbpdjapccpaaC14
namespace Go.Proofs.Ytnhhbpdjapccpaa
open Go.RowKit

theorem same_belowC {P : Program} {f : FuncId} {args : Array Value} {W : World} {v : Value}
    (h : Calls P f args W fun e w' => e = .returned v ∧ W = w') : Calls P f args W fun e w'' => e = .returned v ∧ Below W.heap.size W w'' :=
  h.mono fun _ _ ⟨h1, h2⟩ => ⟨h1, h2 ▸ Below.refl _ _⟩
theorem wrapC {n : Int} (h1 : -9223372036854775808 ≤ n) (h2 : n ≤ 9223372036854775807) : IntKind.i64.wrap n = n := by rw [IntKind.wrap_i64]; omega

set_option maxHeartbeats 400000 in
theorem square_any (x y : Int) (w : World) (h1 : -8000 ≤ x) (h2 : x ≤ 8000) (h3 : -8000 ≤ y) (h4 : y ≤ 8000) :
    Calls Try.prog 84 #[.agg #[.int .i64 x, .int .i64 y]] w fun e w' => e = .returned (.int .i64 (x * x + y * y)) ∧ Below w.heap.size w w' := by
  have p1 : -64000000 ≤ x * x ∧ x * x ≤ 64000000 := mul_rg 8000 8000 (by omega) (by omega) (by omega) (by omega)
  have p2 : -64000000 ≤ y * y ∧ y * y ≤ 64000000 := mul_rg 8000 8000 (by omega) (by omega) (by omega) (by omega)
  go_enter Try.func84, Try.ntmps84
  go_wp2
  all_goals (go_ret; exact ⟨ret_int (by omega), by (repeat (first | (with_reducible assumption) | (with_reducible exact Below.refl _ _) | (with_reducible refine below_drewN' ?_ _) | (with_reducible refine Below.drew ?_) | ((with_reducible refine Below.alloc ?_ ?_ _); rotate_left; focus (first | (simp; done) | (simp; omega) | omega)) | ((with_reducible refine Below.setCell ?_ ?_ _); rotate_left; focus (first | (simp; done) | (simp; omega) | omega))))⟩)
set_option maxHeartbeats 1000000 in
theorem share_any (x y n d : Int) (w : World) (hx1 : -1000000000 ≤ x * n) (hx2 : x * n ≤ 1000000000) (hy1 : -1000000000 ≤ y * n) (hy2 : y * n ≤ 1000000000) (hd : 0 < d) (hd2 : d ≤ 1000) :
    Calls Try.prog 81 #[.agg #[.int .i64 x, .int .i64 y], .int .i64 n, .int .i64 d] w fun e w' => e = .returned (.agg #[.int .i64 (x * n / d), .int .i64 (y * n / d)]) ∧ Below w.heap.size w w' := by
  have HF1 := Lib.hid (fun w => same_belowC (floorDiv_any (x * n) d w hd (by omega) (by omega) (by omega)))
  have HF2 := Lib.hid (fun w => same_belowC (floorDiv_any (y * n) d w hd (by omega) (by omega) (by omega)))
  have e1 : IntKind.i64.wrap (x * n) = x * n := wrapC (by omega) (by omega)
  have e2 : IntKind.i64.wrap (y * n) = y * n := wrapC (by omega) (by omega)
  go_enter Try.func81, Try.ntmps81
  go_wp2_with fail
  refine wp_region_qat [] 13 [] (by kernel_rfl) (by kernel_rfl) ?_
  intro hbc
  simp only [List.take_succ_cons, List.take_zero, List.drop_succ_cons, List.drop_zero]
  repeat (first
    | refine wpQ_pass rfl ?_
    | (refine wpQ_step rfl (fun K hK => ?_)
       go_simp
       first
         | (refine hK _ ?_; clear hK K)
         | (apply Exists.intro
            refine ⟨fun z => ?_, ?_⟩
            focus (first | (go_at_call 75; with_reducible exact HF1.out _) | (go_at_call 75; with_reducible exact HF2.out _))
            refine hK _ ?_
            clear hK K)))
  refine wpQ_nil ⟨?_, ?_⟩
  · exact rfl
  intro  w1 hb1 hF1
  clear hbc
  obtain ⟨hc1, hf1⟩ := bcell hb1
  have hB1 : Below w.heap.size w w1 := below_then (by first | (go_grown; done) | (repeat (first | (with_reducible assumption) | (with_reducible exact Below.refl _ _) | (with_reducible refine below_drewN' ?_ _) | (with_reducible refine Below.drew ?_) | ((with_reducible refine Below.alloc ?_ ?_ _); rotate_left; focus (first | (simp; done) | (simp; omega) | omega)) | ((with_reducible refine Below.setCell ?_ ?_ _); rotate_left; focus (first | (simp; done) | (simp; omega) | omega))))) (by first | (simp; done) | (simp; omega) | omega) hb1
  have hz1a : w.heap.size < w1.heap.size := (by have := hb1.size; first | omega | (simp at this; omega))
  have hz1b : w.heap.size + 1 < w1.heap.size := (by have := hb1.size; first | omega | (simp at this; omega))
  clear hF1
  try simp only [Act.put, List.setIfInBounds_toArray, List.set_cons_succ, List.set_cons_zero]
  have hr1a : w1.cell? ⟨w.heap.size + 1, 0, none⟩ = some (.int .i64 0) := (hc1 _ _ (by simp)).trans (by go_simp)
  have hr1b : w1.cell? ⟨w.heap.size + 1, 1, none⟩ = some (.int .i64 0) := (hc1 _ _ (by simp)).trans (by go_simp)
  go_wp2_with fail
  (try simp only [Exit.inBlock, Exit.then]); refine bodyPost_ret (by simp [results, Try.results81, go_sem, hr1a, hr1b]; try rfl) rfl ?_
  exact ⟨rfl, by (repeat (first | (with_reducible assumption) | (with_reducible exact Below.refl _ _) | (with_reducible refine below_drewN' ?_ _) | (with_reducible refine Below.drew ?_) | ((with_reducible refine Below.alloc ?_ ?_ _); rotate_left; focus (first | (simp; done) | (simp; omega) | omega)) | ((with_reducible refine Below.setCell ?_ ?_ _); rotate_left; focus (first | (simp; done) | (simp; omega) | omega))))⟩
set_option maxHeartbeats 1000000 in
theorem l24Plus_any (p q x y n d : Int) (w : World) (hx1 : -1000000000 ≤ n * x) (hx2 : n * x ≤ 1000000000) (hy1 : -1000000000 ≤ n * y) (hy2 : n * y ≤ 1000000000) (hd : 0 < d) (hd2 : d ≤ 1000)
    (hp1 : -1000000000 ≤ p) (hp2 : p ≤ 1000000000) (hq1 : -1000000000 ≤ q) (hq2 : q ≤ 1000000000) :
    Calls Try.prog 82 #[.agg #[.int .i64 p, .int .i64 q], .int .i64 x, .int .i64 y, .int .i64 n, .int .i64 d] w fun e w' => e = .returned (.agg #[.int .i64 (p + n * x / d), .int .i64 (q + n * y / d)]) ∧ Below w.heap.size w w' := by
  have r1 := ediv_rg hd 1000000000 hx1 hx2
  have r2 := ediv_rg hd 1000000000 hy1 hy2
  have HF1 := Lib.hid (fun w => same_belowC (l24Floor_any (n * x) d w hd (by omega) (by omega) (by omega)))
  have HF2 := Lib.hid (fun w => same_belowC (l24Floor_any (n * y) d w hd (by omega) (by omega) (by omega)))
  have e1 : IntKind.i64.wrap (n * x) = n * x := wrapC (by omega) (by omega)
  have e2 : IntKind.i64.wrap (n * y) = n * y := wrapC (by omega) (by omega)
  have e3 : IntKind.i64.wrap (p + n * x / d) = p + n * x / d := wrapC (by omega) (by omega)
  have e4 : IntKind.i64.wrap (q + n * y / d) = q + n * y / d := wrapC (by omega) (by omega)
  go_enter Try.func82, Try.ntmps82
  go_wp2_with fail
  refine wp_region_qat [] 17 [] (by kernel_rfl) (by kernel_rfl) ?_
  intro hbc
  simp only [List.take_succ_cons, List.take_zero, List.drop_succ_cons, List.drop_zero]
  repeat (first
    | refine wpQ_pass rfl ?_
    | (refine wpQ_step rfl (fun K hK => ?_)
       go_simp
       first
         | (refine hK _ ?_; clear hK K)
         | (apply Exists.intro
            refine ⟨fun z => ?_, ?_⟩
            focus (first | (go_at_call 74; with_reducible exact HF1.out _) | (go_at_call 74; with_reducible exact HF2.out _))
            refine hK _ ?_
            clear hK K)))
  refine wpQ_nil ⟨?_, ?_⟩
  · exact rfl
  intro  w1 hb1 hF1
  clear hbc
  obtain ⟨hc1, hf1⟩ := bcell hb1
  have hB1 : Below w.heap.size w w1 := below_then (by first | (go_grown; done) | (repeat (first | (with_reducible assumption) | (with_reducible exact Below.refl _ _) | (with_reducible refine below_drewN' ?_ _) | (with_reducible refine Below.drew ?_) | ((with_reducible refine Below.alloc ?_ ?_ _); rotate_left; focus (first | (simp; done) | (simp; omega) | omega)) | ((with_reducible refine Below.setCell ?_ ?_ _); rotate_left; focus (first | (simp; done) | (simp; omega) | omega))))) (by first | (simp; done) | (simp; omega) | omega) hb1
  have hz1a : w.heap.size < w1.heap.size := (by have := hb1.size; first | omega | (simp at this; omega))
  have hz1b : w.heap.size + 1 < w1.heap.size := (by have := hb1.size; first | omega | (simp at this; omega))
  clear hF1
  try simp only [Act.put, List.setIfInBounds_toArray, List.set_cons_succ, List.set_cons_zero]
  have hr1a : w1.cell? ⟨w.heap.size + 1, 0, none⟩ = some (.int .i64 0) := (hc1 _ _ (by simp)).trans (by go_simp)
  have hr1b : w1.cell? ⟨w.heap.size + 1, 1, none⟩ = some (.int .i64 0) := (hc1 _ _ (by simp)).trans (by go_simp)
  go_wp2_with fail
  (try simp only [Exit.inBlock, Exit.then]); refine bodyPost_ret (by simp [results, Try.results82, go_sem, hr1a, hr1b]; try rfl) rfl ?_
  exact ⟨rfl, by (repeat (first | (with_reducible assumption) | (with_reducible exact Below.refl _ _) | (with_reducible refine below_drewN' ?_ _) | (with_reducible refine Below.drew ?_) | ((with_reducible refine Below.alloc ?_ ?_ _); rotate_left; focus (first | (simp; done) | (simp; omega) | omega)) | ((with_reducible refine Below.setCell ?_ ?_ _); rotate_left; focus (first | (simp; done) | (simp; omega) | omega))))⟩
end Go.Proofs.Ytnhhbpdjapccpaa
