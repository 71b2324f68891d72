/-
  Arguments that are slices of numbers, opened.
-/
import Derived.Test.YtkipaefhnmfebaaFrame
import Derived.Test.YtkipaefhnmfebaaSlice
namespace Go.Proofs.Ytkipaefhnmfebaa
open Go.ChangeShapes Go.WideShapes Go.ChangeAt Go.RowKit

theorem spot_none {w : World} {a : Addr} {v : Value} (h : w.cell? a = some v) : a = ⟨a.block, a.off, none⟩ := by
  cases a with
  | mk b o s =>
    cases s with
    | none => rfl
    | some k =>
      unfold World.cell? at h
      split at h <;> simp at h
/-- A slice of numbers that came in reads as its numbers; its cells lie in old memory. -/
theorem arg_ints {H : Type} {enc : TypeId × Value → H} {P : Program} {W : World} {r : Reach} {base : Nat} {t e : TypeId} {v : Value} {d : DataW H} {p : List MemPlace}
    (ht : P.underlying t = some (.slice e)) (he : P.underlying e = some (.int .i64)) (hc : P.cellsOf e = 1) (hv : Value.okWide P W r base t v) (h : DataW.Trod enc P W 0 (fun _ => true) true t v d p) (hlt : ∀ x ∈ p, x.block < W.heap.size) :
    ∃ A n c xs, v = .slice A n c ∧ RI W W.heap.size A n xs ∧ n ≤ 9223372036854775807 ∧ ∀ x ∈ xs, -9223372036854775808 ≤ x ∧ x ≤ 9223372036854775807 := by
  obtain ⟨a0, n, c, rfl⟩ := okWide_slice ht hv
  obtain ⟨fuel, hf⟩ := h
  rcases open_ints ht he hc hf with ⟨hcs, hx⟩ | ⟨a, len', cap', zs, hcs, _, hl, hm, hz, hx, hcell, hwz⟩
  · simp [Value.cells] at hcs
    obtain ⟨rfl, rfl, rfl⟩ := hcs
    exact ⟨none, 0, 0, [], rfl, RI.nil, by omega, fun x hx => by cases hx⟩
  · simp [Value.cells] at hcs
    obtain ⟨rfl, rfl, rfl⟩ := hcs
    simp only [if_true] at hz
    simp only [Prod.mk.injEq] at hx
    obtain ⟨rfl, rfl⟩ := hx
    unfold maxLen at hm
    refine ⟨some a, n, c, zs.take n, rfl, ⟨by rw [List.length_take]; omega, fun hn => ?_⟩, by omega, fun x hx => ?_⟩
    · have h0 := hcell 0 (by omega)
      have hadd : a.add 0 = a := by unfold Addr.add; simp
      rw [hadd] at h0
      have hs := spot_none h0
      refine ⟨a.block, a.off, by rw [← hs], ?_, fun k hk => ?_⟩
      · exact World.block_lt_of_cell? W a h0
      · have hk' := hcell k (by omega)
        have e1 : a.add k = ⟨a.block, a.off + k, none⟩ := by
          rw [hs]; unfold Addr.add; split
          · rename_i h; subst h; rfl
          · rfl
        rw [e1] at hk'
        rw [hk']
        unfold nth
        simp [hk]
    · have hx2 := hwz x (List.mem_of_mem_take hx)
      have h1 : IntKind.i64.min = -9223372036854775808 := rfl
      have h2 : IntKind.i64.max = 9223372036854775807 := rfl
      simp only [Lit.wf, Bool.and_eq_true, decide_eq_true_eq] at hx2
      omega
end Go.Proofs.Ytkipaefhnmfebaa
