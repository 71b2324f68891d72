/-
  Plain mathematics: the data cells of a matrix size in order. No program in sight.
-/
import Derived.Test.YtkipaefhnmfebaaC15N
namespace Go.Proofs.Ytkipaefhnmfebaa
open Go.RowKit

/-- The right column of a pair of columns: ahead of the step over column 6, and behind it. -/
def headR (N j : Nat) : Int := if 2 * j + 7 ≤ N then (N : Int) - 1 - 2 * j else (N : Int) - 2 - 2 * j
def adjR (N j : Nat) : Int := if 2 * j + 9 ≤ N then (N : Int) - 1 - 2 * j else (N : Int) - 2 - 2 * j
def plcR (N j m : Nat) : Int := if j % 2 = 0 then (N : Int) - 1 - ((m / 2 : Nat) : Int) else ((m / 2 : Nat) : Int)
def plcC (N j m : Nat) : Int := adjR N j - ((m % 2 : Nat) : Int)
/-- The data cells of a pair of columns, of the first m steps. -/
def colP (keep : Int → Int → Bool) (N j : Nat) : Nat → List (Int × Int)
  | 0 => []
  | m + 1 => colP keep N j m ++ (if keep (plcR N j m) (plcC N j m) then [(plcR N j m, plcC N j m)] else [])
def dpL (keep : Int → Int → Bool) (N : Nat) : Nat → List (Int × Int)
  | 0 => []
  | j + 1 => dpL keep N j ++ colP keep N j (2 * N)
/-- The data cells in order. -/
def dataL (N : Nat) : List (Int × Int) := dpL (fun r c => !noD N r c) N ((N - 1) / 2)
theorem colP_le (keep : Int → Int → Bool) (N j : Nat) : ∀ m, (colP keep N j m).length ≤ m := by
  intro m
  induction m with
  | zero => simp [colP]
  | succ m ih => simp only [colP, List.length_append]; split <;> simp <;> omega
theorem dpL_le (keep : Int → Int → Bool) (N : Nat) : ∀ j, (dpL keep N j).length ≤ j * (2 * N) := by
  intro j
  induction j with
  | zero => simp [dpL]
  | succ j ih =>
    simp only [dpL, List.length_append]
    have := colP_le keep N j (2 * N)
    have e : (j + 1) * (2 * N) = j * (2 * N) + 2 * N := Nat.succ_mul _ _
    omega
theorem plc_in {N j m : Nat} (h : 17 ≤ N ∧ N ≤ 41 ∧ N % 4 = 1) (hj : j < (N - 1) / 2) (hm : m < 2 * N) : 0 ≤ plcR N j m ∧ plcR N j m < N ∧ 0 ≤ plcC N j m ∧ plcC N j m < N := by
  unfold plcR plcC adjR
  refine ⟨?_, ?_, ?_, ?_⟩ <;> repeat' split <;> omega
theorem head_adj {N j : Nat} (h : 17 ≤ N ∧ N % 4 = 1) : adjR N j = if headR N j = 6 then 5 else headR N j := by
  unfold adjR headR
  repeat' split <;> omega
theorem adj_next {N j : Nat} (h : 17 ≤ N ∧ N % 4 = 1) : adjR N j - 2 = headR N (j + 1) := by
  unfold adjR headR
  repeat' split <;> omega
theorem head_pos {N j : Nat} (h : 17 ≤ N ∧ N % 4 = 1) : (j < (N - 1) / 2 → 1 ≤ headR N j) ∧ (j = (N - 1) / 2 → headR N j ≤ 0) := by
  unfold headR
  refine ⟨fun _ => ?_, fun _ => ?_⟩ <;> split <;> omega
/-- The cells that are no data cells, by the fixed cells' own word. -/
def noF (N : Nat) (r c : Int) : Bool := decide (0 ≤ fixV N r c) || (fmtA ++ fmtB N).any (eqP r c)
theorem noD_F {N : Nat} {r c : Int} (hr : 0 ≤ r ∧ r < N) (hc : 0 ≤ c ∧ c < N) : noD N r c = noF N r c := by
  obtain ⟨R, rfl⟩ := Int.eq_ofNat_of_zero_le hr.1
  obtain ⟨C, rfl⟩ := Int.eq_ofNat_of_zero_le hc.1
  have hR : R < N := by omega
  have hC : C < N := by omega
  have hlt := cell_lt hR hC
  unfold noD noF fixB
  have e : (R : Int) * N + C = ((R * N + C : Nat) : Int) := by simp
  rw [e, Int.toNat_natCast, fixL_nth hR hC]
  have h3 : decide ((C : Int) < N) = true := decide_eq_true (by omega)
  have h4 : decide (((R * N + C : Nat) : Int) < ((N * N : Nat) : Int)) = true := decide_eq_true (by omega)
  rw [h3, h4]
  simp
theorem colP_congr {k1 k2 : Int → Int → Bool} {N j : Nat} : ∀ {m : Nat}, (∀ i, i < m → k1 (plcR N j i) (plcC N j i) = k2 (plcR N j i) (plcC N j i)) → colP k1 N j m = colP k2 N j m := by
  intro m
  induction m with
  | zero => intro _; rfl
  | succ m ih => intro h; simp only [colP]; rw [ih (fun i hi => h i (by omega)), h m (by omega)]
theorem dpL_congr {k1 k2 : Int → Int → Bool} {N : Nat} : ∀ {j : Nat}, (∀ q i, q < j → i < 2 * N → k1 (plcR N q i) (plcC N q i) = k2 (plcR N q i) (plcC N q i)) → dpL k1 N j = dpL k2 N j := by
  intro j
  induction j with
  | zero => intro _; rfl
  | succ j ih => intro h; simp only [dpL]; rw [ih (fun q i hq hi => h q i (by omega) hi), colP_congr (fun i hi => h j i (by omega) hi)]
def dataF (N : Nat) : List (Int × Int) := dpL (fun r c => !noF N r c) N ((N - 1) / 2)
theorem data_F {N : Nat} (h : 17 ≤ N ∧ N ≤ 41 ∧ N % 4 = 1) : dataL N = dataF N := by
  unfold dataL dataF
  refine dpL_congr fun q i hq hi => ?_
  obtain ⟨a, b, c, d⟩ := plc_in h hq hi
  show (!noD N _ _) = (!noF N _ _)
  rw [noD_F ⟨a, b⟩ ⟨c, d⟩]
end Go.Proofs.Ytkipaefhnmfebaa
