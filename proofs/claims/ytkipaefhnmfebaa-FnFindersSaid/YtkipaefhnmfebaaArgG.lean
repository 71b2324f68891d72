/-
  Arguments that are structs of two numbers and a slice of numbers (grids, rasters), opened. The laws' own words on grids.
-/
import Derived.Test.YtkipaefhnmfebaaArgS
import Derived.Test.YtkipaefhnmfebaaToS
import Derived.Test.YtkipaefhnmfebaaBlk
import Derived.Lib.SmallJoins
namespace Go.Proofs.Ytkipaefhnmfebaa
open Go.ChangeShapes Go.WideShapes Go.ChangeAt Go.RowKit Go.Deep

theorem wf_i64 {n : Int} (h : (Lit.int .i64 n).wf = true) : -9223372036854775808 ≤ n ∧ n ≤ 9223372036854775807 := by
  have h1 : IntKind.i64.min = -9223372036854775808 := rfl
  have h2 : IntKind.i64.max = 9223372036854775807 := rfl
  simp only [Lit.wf, Bool.and_eq_true, decide_eq_true_eq] at h
  omega
/-- The cell of a slice of numbers that came in reads as its numbers. -/
theorem cell_ints {H : Type} {enc : TypeId × Value → H} {P : Program} {W : World} {fuel : Nat} {t e : TypeId} {cs : List Value} {y : DataW H × List MemPlace}
    (ht : P.underlying t = some (.slice e)) (he : P.underlying e = some (.int .i64)) (hc : P.cellsOf e = 1) (hf : DataW.trod enc P W 0 (fun _ => true) true fuel t cs = some y) (_ : ∀ x ∈ y.2, x.block < W.heap.size) :
    ∃ A n c xs, cs = [.slice A n c] ∧ RI W W.heap.size A n xs ∧ n ≤ 9223372036854775807 ∧ ∀ x ∈ xs, -9223372036854775808 ≤ x ∧ x ≤ 9223372036854775807 := by
  rcases open_ints ht he hc hf with ⟨rfl, hx⟩ | ⟨a, len', cap', zs, rfl, _, hl, hm, hz, hx, hcell, hwz⟩
  · exact ⟨none, 0, 0, [], rfl, RI.nil, by omega, fun x hx => by cases hx⟩
  · simp only [if_true] at hz
    unfold maxLen at hm
    refine ⟨some a, len', cap', zs.take len', rfl, ⟨by rw [List.length_take]; omega, fun hn => ?_⟩, by omega, fun x hx => wf_i64 (hwz x (List.mem_of_mem_take hx))⟩
    have h0 := hcell 0 (by omega)
    have hadd : a.add 0 = a := by unfold Addr.add; simp
    rw [hadd] at h0
    have hs := spot_none h0
    refine ⟨a.block, a.off, by rw [← hs], World.block_lt_of_cell? W a h0, fun k hk => ?_⟩
    have hk' := hcell k (by omega)
    have e1 : a.add k = ⟨a.block, a.off + k, none⟩ := by
      rw [hs]; unfold Addr.add; split
      · rename_i h; subst h; rfl
      · rfl
    rw [e1] at hk'
    rw [hk']
    unfold nth
    simp [hk]
theorem arg_grid {H : Type} {enc : TypeId × Value → H} {P : Program} {W : World} {r : Reach} {base : Nat} {t e : TypeId} {f0 f1 f2 : Field} {v : Value} {d : DataW H} {p : List MemPlace}
    (hs : P.underlying t = some (.struct #[f0, f1, f2])) (hone : oneCellFields P #[f0, f1, f2] = true) (hC : P.cellsOf t = 3)
    (h0 : P.underlying f0.type = some (.int .i64)) (h1 : P.underlying f1.type = some (.int .i64)) (ht : P.underlying f2.type = some (.slice e)) (he : P.underlying e = some (.int .i64)) (hc : P.cellsOf e = 1)
    (hv : Value.okWide P W r base t v) (h : DataW.Trod enc P W 0 (fun _ => true) true t v d p) (hlt : ∀ x ∈ p, x.block < W.heap.size) :
    ∃ (a b : Int) (A : Option Addr) (n c : Nat) (xs : List Int), v = .agg #[.int .i64 a, .int .i64 b, .slice A n c] ∧ (-9223372036854775808 ≤ a ∧ a ≤ 9223372036854775807) ∧ (-9223372036854775808 ≤ b ∧ b ≤ 9223372036854775807) ∧
      RI W W.heap.size A n xs ∧ n ≤ 9223372036854775807 ∧ ∀ x ∈ xs, -9223372036854775808 ≤ x ∧ x ≤ 9223372036854775807 := by
  obtain ⟨v0, v1, v2, y0, y1, y2, m, rfl, rfl, rfl, g0, g1, g2⟩ := Go.Joins.open_agg3 hs hone hC hv h
  obtain ⟨a, ha, _, hwa⟩ := DataW.trod_int h0 g0
  obtain ⟨b, hb, _, hwb⟩ := DataW.trod_int h1 g1
  obtain ⟨A, n, c, xs, hcs, hr, hn, hx⟩ := cell_ints ht he hc g2 (fun x hx => hlt x (by simp [hx]))
  simp only [List.cons.injEq, and_true] at ha hb hcs
  subst ha hb hcs
  exact ⟨a, b, A, n, c, xs, rfl, wf_i64 hwa, wf_i64 hwb, hr, hn, hx⟩
theorem grown_trans' {a b c : World} {r : Option Nat} (h : a.grownBy b r) (k : b.grownBy c r) : a.grownBy c r :=
  ⟨k.os.trans h.os, k.tape.trans h.tape, k.output.trans h.output, Nat.le_trans h.size k.size, fun j hj hne => (k.block j (Nat.lt_of_lt_of_le hj h.size) hne).trans (h.block j hj hne)⟩
theorem grown_alloc' {a w : World} {r : Option Nat} (h : a.grownBy w r) (o : Obj) : a.grownBy (w.alloc o) r :=
  ⟨h.os, h.tape, h.output, by have := h.size; simp; omega, fun j hj hne => (Below.heap_alloc _ _ _ (by have := h.size; omega)).trans (h.block j hj hne)⟩
theorem szInt64S_ok (A : Option Addr) (n cp m : Nat) (w : World) (hn : n ≤ m) (hm : m ≤ 1000000000) :
    Calls Try.prog 28 #[.slice A n cp, .int .i64 m] w fun e w' => e = .returned (.int .i64 (m - n : Nat)) ∧ w = w' := by
  go_enter Try.func28, Try.ntmps28
  go_wp2_with fail
  go_ret
  exact ⟨ret_int (by omega), rfl⟩
theorem szInt64S_no (A : Option Addr) (n cp m : Nat) (w : World) (hn : m < n) (hn2 : n ≤ 9223372036854775807) :
    Calls Try.prog 28 #[.slice A n cp, .int .i64 m] w fun e w' => e = .returned (.int .i64 (-1)) ∧ w = w' := by
  go_enter Try.func28, Try.ntmps28
  go_wp2_with fail
  go_ret
  exact ⟨rfl, rfl⟩
end Go.Proofs.Ytkipaefhnmfebaa
