/-
  Elements taken out of cells, in plain Lean; two slices of numbers that lie apart.
-/
import Derived.Test.YtkipaefhnmfebaaSlice
import Derived.Test.YtkipaefhnmfebaaLst
namespace Go.Proofs.Ytkipaefhnmfebaa
open Go.RowKit

/-- One cell taken into an element. -/
def tkS (x c : Int) : Int := bif decide (c < 0) || decide (x < 0) then -1 else 2 * x + c
/-- The element of the first j cells from a on. -/
def tkV (cs : List Int) (a : Nat) : Nat → Int
  | 0 => 0
  | j + 1 => tkS (tkV cs a j) (nth cs (a + j))
/-- The first m elements of K cells each; an unknown one counts as 0. -/
def elL (cs : List Int) (K : Nat) : Nat → List Int
  | 0 => []
  | m + 1 => elL cs K m ++ [max 0 (tkV cs (m * K) K)]
/-- The indices of the unknown ones among the first m elements. -/
def unL (cs : List Int) (K : Nat) : Nat → List Int
  | 0 => []
  | m + 1 => bif decide (tkV cs (m * K) K < 0) then unL cs K m ++ [(m : Int)] else unL cs K m
theorem tkV_b {cs : List Int} (hc : ∀ k, k < cs.length → -1 ≤ nth cs k ∧ nth cs k ≤ 1) {a : Nat} : ∀ j, a + j ≤ cs.length → -1 ≤ tkV cs a j ∧ tkV cs a j < 2 ^ j := by
  intro j
  induction j with
  | zero => intro _; simp [tkV]
  | succ j ih =>
    intro h
    have h1 := ih (by omega)
    have h2 := hc (a + j) (by omega)
    have h3 : (2 : Int) ^ (j + 1) = 2 * 2 ^ j := by rw [Int.pow_succ]; omega
    simp only [tkV, tkS]
    rw [h3]
    by_cases hn : nth cs (a + j) < 0
    · have : (0 : Int) < 2 ^ j := by have : (0 : Int) < 2 := by decide
                                     exact Int.pow_pos this
      simp [hn]; omega
    · by_cases hx : tkV cs a j < 0
      · have : (0 : Int) < 2 ^ j := by have : (0 : Int) < 2 := by decide
                                       exact Int.pow_pos this
        simp [hx]; omega
      · simp [hn, hx]; omega
theorem tkV_256 {cs : List Int} (hc : ∀ k, k < cs.length → -1 ≤ nth cs k ∧ nth cs k ≤ 1) {a j : Nat} (h : a + j ≤ cs.length) (hj : j ≤ 8) : -1 ≤ tkV cs a j ∧ tkV cs a j < 256 := by
  have h1 := tkV_b hc j h
  have h2 : (2 : Int) ^ j ≤ 256 := by
    match j, hj with
    | 0, _ => decide
    | 1, _ => decide
    | 2, _ => decide
    | 3, _ => decide
    | 4, _ => decide
    | 5, _ => decide
    | 6, _ => decide
    | 7, _ => decide
    | 8, _ => decide
    | n + 9, h => omega
  omega
theorem elL_len (cs : List Int) (K : Nat) : ∀ m, (elL cs K m).length = m := by
  intro m
  induction m with
  | zero => rfl
  | succ m ih => simp [elL, ih]
theorem unL_len (cs : List Int) (K : Nat) : ∀ m, (unL cs K m).length ≤ m := by
  intro m
  induction m with
  | zero => simp [unL]
  | succ m ih =>
    simp only [unL]
    cases decide (tkV cs (m * K) K < 0) <;> simp <;> omega
section
variable {w w' : World} {B B' : Nat} {v1 v2 : Value} {xs ys : List Int}
/-- Two slices of numbers that lie apart. -/
def TwoI (w : World) (B : Nat) (v1 : Value) (xs : List Int) (v2 : Value) (ys : List Int) : Prop :=
  Own w B v1 xs ∧ Own w B v2 ys ∧ ∀ k, v1.ownBlock = some k → v2.ownBlock ≠ some k
theorem TwoI.symm (h : TwoI w B v1 xs v2 ys) : TwoI w B v2 ys v1 xs := ⟨h.2.1, h.1, fun k h1 h2 => h.2.2 k h2 h1⟩
theorem TwoI.first {v' : Value} {zs : List Int} {o : Obj} (h : TwoI w B v1 xs v2 ys) (ho : Own w' B v' zs) (hg : (w.alloc o).grownBy w' v1.ownBlock) (hat : v'.ownBlock = v1.ownBlock ∨ v'.ownBlock = some (w.alloc o).heap.size) : TwoI w' B v' zs v2 ys := by
  refine ⟨ho, World.ownsRow.kept (h.2.1.alloc o) hg ?_, fun k h1 h2 => ?_⟩
  · cases hv : v2.ownBlock with
    | none => exact .inl rfl
    | some k => exact .inr fun e => h.2.2 k e.symm hv
  · rcases hat with e | e
    · exact h.2.2 k (e ▸ h1) h2
    · rw [e] at h1
      have := (World.ownsRow.lt h.2.1 k h2).2
      simp at h1
      omega
theorem TwoI.keep (h : TwoI w B v1 xs v2 ys) (hb : Below w.heap.size w w') : TwoI w' B v1 xs v2 ys := ⟨h.1.keep hb, h.2.1.keep hb, h.2.2⟩
theorem TwoI.more (h : TwoI w B v1 xs v2 ys) (hB : B' ≤ B) : TwoI w B' v1 xs v2 ys := ⟨h.1.more hB, h.2.1.more hB, h.2.2⟩
/-- What is marked in the first leaves the second as it was. -/
theorem TwoI.second (h : TwoI w B v1 xs v2 ys) (hg : w.grownBy w' v1.ownBlock) : Own w' B v2 ys :=
  World.ownsRow.kept h.2.1 hg (by
    cases hv : v2.ownBlock with
    | none => exact .inl rfl
    | some k => exact .inr fun e => h.2.2 k e.symm hv)
end
theorem Own.ri {w : World} {B n c : Nat} {A : Option Addr} {xs : List Int} (h : Own w B (.slice A n c) xs) (hl : xs.length = n) : RI w w.heap.size A n xs := by
  obtain ⟨A', c', e, hr⟩ := h.shape
  simp only [Value.slice.injEq] at e
  obtain ⟨rfl, -, -⟩ := e
  rw [hl] at hr
  exact hr
theorem grown_b {a w w' : World} {r : Option Nat} (h : a.grownBy w r) (hb : Below w.heap.size w w') : a.grownBy w' r :=
  ⟨hb.os.trans h.os, hb.tape.trans h.tape, hb.output.trans h.output, Nat.le_trans h.size hb.size, fun j hj hne => (hb.block j (Nat.lt_of_lt_of_le hj h.size)).trans (h.block j hj hne)⟩
theorem grown_t {a b c : World} {g : Nat} (h : a.grownBy b (some g)) (k : b.grownBy c (some g)) : a.grownBy c (some g) :=
  ⟨k.os.trans h.os, k.tape.trans h.tape, k.output.trans h.output, Nat.le_trans h.size k.size, fun j hj hne => (k.block j (Nat.lt_of_lt_of_le hj h.size) hne).trans (h.block j hj hne)⟩
end Go.Proofs.Ytkipaefhnmfebaa
