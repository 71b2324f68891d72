/-
  Contracts of chapter 15, the program: the cells that are no data cells.
-/
import Derived.Test.YtkipaefhnmfebaaMapP
import Derived.Test.YtkipaefhnmfebaaC14P
import Derived.Test.YtkipaefhnmfebaaC14T
namespace Go.Proofs.Ytkipaefhnmfebaa
set_option linter.unusedSimpArgs false
open Go.RowKit

def eqP (r c : Int) (p : Int × Int) : Bool := r == p.1 && c == p.2
/-- The fixed cells among the first k. -/
def fixB (N k : Nat) (r c : Int) : Bool := decide (0 ≤ r) && decide (0 ≤ c) && decide (c < N) && decide (r * N + c < k) && decide (0 ≤ nth (fixL N) (r * N + c).toNat)
/-- The cells that are no data cells. -/
def noD (N : Nat) (r c : Int) : Bool := fixB N (N * N) r c || (fmtA ++ fmtB N).any (eqP r c)
theorem fixB_zero (N : Nat) : fixB N 0 = fun _ _ => false := by
  funext r c
  unfold fixB
  by_cases h1 : 0 ≤ r <;> by_cases h2 : 0 ≤ c <;> simp [h1, h2]
  intro h3 h4
  have := Int.mul_nonneg h1 (show (0 : Int) ≤ N by omega)
  omega
theorem fixB_succ {N k : Nat} (hN : 0 < N) (r c : Int) : fixB N (k + 1) r c = (fixB N k r c || (decide (0 ≤ nth (fixL N) k) && (r == ((k / N : Nat) : Int) && c == ((k % N : Nat) : Int)))) := by
  have hdm := Nat.div_add_mod k N
  have hml := Nat.mod_lt k hN
  unfold fixB
  by_cases h1 : 0 ≤ r
  · by_cases h2 : 0 ≤ c
    · obtain ⟨R, rfl⟩ := Int.eq_ofNat_of_zero_le h1
      obtain ⟨C, rfl⟩ := Int.eq_ofNat_of_zero_le h2
      have e : (R : Int) * N + C = ((R * N + C : Nat) : Int) := by simp
      rw [e, Int.toNat_natCast]
      by_cases h3 : C < N
      · have h3' : decide ((C : Int) < N) = true := decide_eq_true (by omega)
        by_cases h4 : R * N + C = k
        · have hq : k / N = R ∧ k % N = C := by
            rw [← h4]
            refine ⟨?_, ?_⟩
            · rw [Nat.mul_comm, Nat.mul_add_div hN, Nat.div_eq_of_lt h3, Nat.add_zero]
            · rw [Nat.mul_comm, Nat.mul_add_mod, Nat.mod_eq_of_lt h3]
          rw [h4]
          simp [h3', hq.1, hq.2]
          intro _; exact ⟨h3, by omega⟩
        · have hne : ¬ (R = k / N ∧ C = k % N) := by
            rintro ⟨rfl, rfl⟩
            exact h4 (by rw [Nat.mul_comm]; exact hdm)
          have hlt : (((R * N + C : Nat) : Int) < ((k + 1 : Nat) : Int)) ↔ (((R * N + C : Nat) : Int) < (k : Int)) := by omega
          have hb : ((R : Int) == ((k / N : Nat) : Int) && (C : Int) == ((k % N : Nat) : Int)) = false := by
            rw [Bool.and_eq_false_iff]
            by_cases e1 : R = k / N
            · right; have : C ≠ k % N := fun e2 => hne ⟨e1, e2⟩
              simp; omega
            · left; simp; omega
          rw [hb]
          simp only [Bool.and_false, Bool.or_false]
          rw [decide_eq_decide.2 hlt]
      · have h3' : decide ((C : Int) < N) = false := decide_eq_false (by omega)
        have hb : ((C : Int) == ((k % N : Nat) : Int)) = false := by rw [beq_eq_false_iff_ne]; intro e; have e2 := Int.ofNat_inj.1 e; omega
        rw [hb, h3']; simp
    · have h2' : decide (0 ≤ c) = false := decide_eq_false h2
      have hb : (c == ((k % N : Nat) : Int)) = false := by rw [beq_eq_false_iff_ne]; intro e; have := Int.natCast_nonneg (k % N); rw [e] at h2; exact h2 this
      rw [hb, h2']; simp
  · have h1' : decide (0 ≤ r) = false := decide_eq_false h1
    have hb : (r == ((k / N : Nat) : Int)) = false := by rw [beq_eq_false_iff_ne]; intro e; have := Int.natCast_nonneg (k / N); rw [e] at h1; exact h1 this
    rw [hb, h1']; simp
theorem any_take {ps : List (Int × Int)} {k : Nat} (h : k < ps.length) (r c : Int) : (ps.take (k + 1)).any (eqP r c) = ((ps.take k).any (eqP r c) || (r == (nthP ps k).1 && c == (nthP ps k).2)) := by
  rw [take_nthP h, List.any_append]; simp [eqP]
theorem I64.of {n : Int} (h : -1000000 ≤ n ∧ n ≤ 1000000) : I64 n := by unfold I64; omega
def fmtOk : Bool := sizes.all fun N => (fmtA ++ fmtB N).all fun p => decide (0 ≤ p.1) && decide (0 ≤ p.2) && decide (p.1 < N) && decide (p.2 < N)
theorem fmtOk_true : fmtOk = true := by decide +kernel
theorem fmt_in {N : Nat} (h : 17 ≤ N ∧ N ≤ 41 ∧ N % 4 = 1) {p : Int × Int} (hp : p ∈ fmtA ++ fmtB N) : 0 ≤ p.1 ∧ 0 ≤ p.2 ∧ p.1 < N ∧ p.2 < N := by
  have h1 := List.all_eq_true.1 fmtOk_true N (size_mem h)
  have h2 := List.all_eq_true.1 h1 p hp
  simp only [Bool.and_eq_true, decide_eq_true_eq] at h2
  omega
theorem RI.grownNe {w w' : World} {B b o n : Nat} {xs : List Int} {row : Option Nat} (h : RI w B (some ⟨b, o, none⟩) n xs) (hg : w.grownBy w' row) (hne : some b ≠ row) : RI w' B (some ⟨b, o, none⟩) n xs := by
  refine ⟨h.len, fun hn => ?_⟩
  obtain ⟨b', o', e, hb, hc⟩ := h.cells hn
  simp only [Option.some.injEq, Addr.mk.injEq, and_true] at e
  obtain ⟨rfl, rfl⟩ := e
  exact ⟨b, o, rfl, hb, fun k hk => hg.cell (hc k hk) hne⟩
end Go.Proofs.Ytkipaefhnmfebaa
