/-
  A slice whose elements are structs of k numbers, as an argument: told as one list of numbers.
-/
import Derived.Test.YtffcjmnldmjocaaArgS
import Derived.Deep.Slices
namespace Go.Proofs.Ytffcjmnldmjocaa
set_option linter.unusedSimpArgs false
open Go.ChangeShapes Go.WideShapes Go.ChangeAt Go.RowKit Go.Deep

theorem nth_mapD {x : Nat → Int} {n k : Nat} (hk : k < n) : nth ((List.range n).map x) k = x k := by
  rw [nth_lt (by simpa using hk)]; simp
theorem arg_rows {H : Type} {enc : TypeId × Value → H} {P : Program} {W : World} {r : Reach} {base : Nat} {t e : TypeId} {v : Value} {d : DataW H} {p : List MemPlace} {fs : Array Field} {q : Nat} (hq : 0 < q)
    (ht : P.underlying t = some (.slice e)) (he : P.underlying e = some (.struct fs)) (ce : P.cellsOf e = q)
    (hfs : ∀ j, j < q → ∃ f, fs[j]? = some f ∧ f.offset = j ∧ P.cellsOf f.type = 1 ∧ P.underlying f.type = some (.int .i64))
    (hv : Value.okWide P W r base t v) (h : DataW.Trod enc P W 0 (fun _ => true) true t v d p) :
    ∃ A n c xs, v = .slice A n c ∧ RI W W.heap.size A (n * q) xs ∧ n ≤ 9223372036854775807 := by
  obtain ⟨a0, n, c, rfl⟩ := okWide_slice ht hv
  obtain ⟨fuel, hf⟩ := h
  rcases open_slice ht hf with ⟨hcs, hx⟩ | ⟨a, len, cap, m, n', D, Pl, hcs, hb, hl, hm, hmm, hx, hcell⟩
  · simp [Value.cells] at hcs
    obtain ⟨rfl, rfl, rfl⟩ := hcs
    exact ⟨none, 0, 0, [], rfl, by rw [Nat.zero_mul]; exact RI.nil, by omega⟩
  · simp [Value.cells] at hcs
    obtain ⟨rfl, rfl, rfl⟩ := hcs
    simp only [if_true] at hmm
    rw [hmm] at hcell
    unfold maxLen at hm
    have each : ∀ i, i < n * q → ∃ z : Int, W.cell? (a.add i) = some (.int .i64 z) := by
      intro i hi
      have hi1 : i / q < n := Nat.div_lt_of_lt_mul (by rwa [Nat.mul_comm] at hi)
      have hi2 : i % q < q := Nat.mod_lt _ hq
      have hi3 : i = i / q * q + i % q := by rw [Nat.mul_comm]; exact (Nat.div_add_mod i q).symm
      obtain ⟨cs', h1, h2⟩ := hcell (i / q) (by omega)
      rw [ce] at h1
      obtain ⟨_, hlen, hcc⟩ := World.cells?_some h1
      obtain ⟨ys, k, hk, hxy, _, hxl, hff⟩ := DataW.trod_struct he h2
      obtain ⟨f, hf1, hf2, hf3, hf4⟩ := hfs (i % q) hi2
      have g := hff _ f hf1
      rw [hf2, hf3] at g
      have hjl : i % q < cs'.length := by omega
      have e1 : (cs'.drop (i % q)).take 1 = [cs'[i % q]] := by
        rw [List.drop_eq_getElem_cons hjl]; rfl
      rw [e1] at g
      have hyl : i % q < ys.length := by
        rw [hxl]
        exact (Array.getElem?_eq_some_iff.1 hf1).1
      rw [List.getElem?_eq_getElem hyl] at g
      obtain ⟨z, hz, _, _⟩ := DataW.trod_int hf4 g
      refine ⟨z, ?_⟩
      have g2 := hcc (i % q) hi2
      rw [add_add, ← hi3] at g2
      rw [g2, List.getElem?_eq_getElem hjl]
      simp only [List.cons.injEq, and_true] at hz
      rw [hz]
    obtain ⟨z, hz⟩ := choose_lt each
    refine ⟨some a, n, c, (List.range (n * q)).map z, rfl, ⟨by simp, fun hn => ?_⟩, by omega⟩
    have h0' := hz 0 hn
    have hadd : a.add 0 = a := by unfold Addr.add; simp
    rw [hadd] at h0'
    have hs := spot_none h0'
    refine ⟨a.block, a.off, by rw [← hs], World.block_lt_of_cell? W a h0', fun k hk => ?_⟩
    have e1 : a.add k = ⟨a.block, a.off + k, none⟩ := by
      rw [hs]; unfold Addr.add; split
      · rename_i h; subst h; rfl
      · rfl
    have h1 := hz k hk
    rw [e1] at h1
    rw [nth_mapD hk]
    exact h1
end Go.Proofs.Ytffcjmnldmjocaa
