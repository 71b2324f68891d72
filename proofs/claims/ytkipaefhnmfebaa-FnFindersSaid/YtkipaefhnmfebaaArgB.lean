/-
  Arguments that are codes (slices of bytes), opened; the laws' own words on lists.
-/
import Derived.Test.YtkipaefhnmfebaaArgS
import Derived.Test.YtkipaefhnmfebaaSrc
import Derived.Test.YtkipaefhnmfebaaToS
namespace Go.Proofs.Ytkipaefhnmfebaa
open Go.ChangeShapes Go.WideShapes Go.ChangeAt Go.RowKit

/-- A code that came in reads as its bytes; its cells lie in old memory. -/
theorem arg_bytes {H : Type} {enc : TypeId × Value → H} {P : Program} {W : World} {r : Reach} {base : Nat} {t e : TypeId} {v : Value} {d : DataW H} {p : List MemPlace}
    (ht : P.underlying t = some (.slice e)) (he : P.underlying e = some (.int .u8)) (hc : P.cellsOf e = 1) (hv : Value.okWide P W r base t v) (h : DataW.Trod enc P W 0 (fun _ => true) true t v d p) (hlt : ∀ x ∈ p, x.block < W.heap.size) :
    ∃ A n c xs, v = .slice A n c ∧ RB W W.heap.size A n xs ∧ n ≤ 9223372036854775807 := by
  obtain ⟨a0, n, c, rfl⟩ := okWide_slice ht hv
  obtain ⟨fuel, hf⟩ := h
  rcases open_ints ht he hc hf with ⟨hcs, hx⟩ | ⟨a, len', cap', zs, hcs, _, hl, hm, hz, hx, hcell, hwz⟩
  · simp [Value.cells] at hcs
    obtain ⟨rfl, rfl, rfl⟩ := hcs
    exact ⟨none, 0, 0, [], rfl, ⟨rfl, (fun x hx => by cases hx), fun h => absurd h (by omega)⟩, by omega⟩
  · simp [Value.cells] at hcs
    obtain ⟨rfl, rfl, rfl⟩ := hcs
    simp only [if_true] at hz
    simp only [Prod.mk.injEq] at hx
    obtain ⟨rfl, rfl⟩ := hx
    unfold maxLen at hm
    refine ⟨some a, n, c, zs.take n, rfl, ⟨by rw [List.length_take]; omega, fun x hx => ?_, fun hn => ?_⟩, by omega⟩
    · have hx2 := hwz x (List.mem_of_mem_take hx)
      have h1 : IntKind.u8.min = 0 := rfl
      have h2 : IntKind.u8.max = 255 := rfl
      simp only [Lit.wf, Bool.and_eq_true, decide_eq_true_eq] at hx2
      omega
    · have h0 := hcell 0 (by omega)
      have hadd : a.add 0 = a := by unfold Addr.add; simp
      rw [hadd] at h0
      have hs := spot_none h0
      refine ⟨a.block, a.off, by rw [← hs], ?_, fun k hk => ?_⟩
      · exact World.block_lt_of_cell? W a h0
      · have hk' := hcell k (by omega)
        have e1 : a.add k = ⟨a.block, a.off + k, none⟩ := by
          rw [hs]; unfold Addr.add; split
          · rename_i h; subst h; rfl
          · rfl
        rw [e1] at hk'
        rw [hk']
        unfold nth
        simp [hk]
theorem big_any (A : Option Addr) (n c : Nat) (w : World) : Calls Try.prog 11 #[.slice A n c] w fun e w' => e = .returned (.bool (decide (4096 < n))) ∧ Below w.heap.size w w' := by
  go_enter Try.func11, Try.ntmps11
  go_wp2_with fail
  go_ret
  exact ⟨ret_bool (by congr 1; apply propext; omega), by (repeat (first | (with_reducible assumption) | (with_reducible exact Below.refl _ _) | (with_reducible refine below_drewN' ?_ _) | (with_reducible refine Below.drew ?_) | ((with_reducible refine Below.alloc ?_ ?_ _); rotate_left; focus (first | (simp; done) | (simp; omega) | omega)) | ((with_reducible refine Below.setCell ?_ ?_ _); rotate_left; focus (first | (simp; done) | (simp; omega) | omega))))⟩
end Go.Proofs.Ytkipaefhnmfebaa
