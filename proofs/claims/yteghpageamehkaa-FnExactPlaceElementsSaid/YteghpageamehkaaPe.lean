/-
  Plain mathematics: elements laid as bits into the data cells of a grid. No program in sight.
-/
import Derived.Test.YteghpageamehkaaFw
import Derived.Test.YteghpageamehkaaPut
import Derived.Test.YteghpageamehkaaDat
namespace Go.Proofs.Yteghpageamehkaa
open Go.RowKit

/-- The bits of elements of K bits each. -/
def bitsF (K : Nat) : List Int → List Int
  | [] => []
  | e :: es => bitsL K e.toNat ++ bitsF K es
theorem bitsF_len (K : Nat) : ∀ es, (bitsF K es).length = es.length * K := by
  intro es
  induction es with
  | nil => simp [bitsF]
  | cons e es ih => simp only [bitsF, List.length_append, List.length_cons, bitsL_len, ih, Nat.succ_mul]; omega
theorem bitsF_snoc (K : Nat) (e : Int) : ∀ es, bitsF K (es ++ [e]) = bitsF K es ++ bitsL K e.toNat := by
  intro es
  induction es with
  | nil => simp [bitsF]
  | cons x es ih => simp only [List.cons_append, bitsF, ih, List.append_assoc]
theorem bitsF_take {K k : Nat} {es : List Int} (h : k < es.length) : bitsF K (es.take (k + 1)) = bitsF K (es.take k) ++ bitsL K (nth es k).toNat := by
  rw [take_nth h, bitsF_snoc]
theorem bitsF_01 {K : Nat} : ∀ {es : List Int} {x : Int}, x ∈ bitsF K es → x = 0 ∨ x = 1 := by
  intro es
  induction es with
  | nil => intro x h; simp [bitsF] at h
  | cons e es ih =>
    intro x h
    simp only [bitsF, List.mem_append] at h
    rcases h with h | h
    · exact bitsL_01 h
    · exact ih h
theorem nth_app_lt {xs ys : List Int} {i : Nat} (h : i < xs.length) : nth (xs ++ ys) i = nth xs i := by
  unfold nth; simp [List.getD_eq_getElem?_getD, List.getElem?_append_left h]
theorem nth_app_ge {xs ys : List Int} {i : Nat} (h : xs.length ≤ i) : nth (xs ++ ys) i = nth ys (i - xs.length) := by
  unfold nth; simp [List.getD_eq_getElem?_getD, List.getElem?_append_right h]
theorem nth_bitsF {K : Nat} (hK : 1 ≤ K) : ∀ {es : List Int} {i : Nat}, i < es.length * K → nth (bitsF K es) i = (((nth es (i / K)).toNat / 2 ^ (K - 1 - i % K) % 2 : Nat) : Int) := by
  intro es
  induction es with
  | nil => intro i h; simp at h
  | cons e es ih =>
    intro i h
    simp only [bitsF]
    by_cases hi : i < K
    · rw [nth_app_lt (by rw [bitsL_len]; exact hi), nth_bitsL hi, Nat.div_eq_of_lt hi, Nat.mod_eq_of_lt hi]
      rfl
    · have h1 : i - K < es.length * K := by simp only [List.length_cons, Nat.succ_mul] at h; omega
      obtain ⟨j, rfl⟩ : ∃ j, i = j + K := ⟨i - K, by omega⟩
      rw [Nat.add_sub_cancel] at h1
      rw [nth_app_ge (by rw [bitsL_len]; omega), bitsL_len, Nat.add_sub_cancel, ih h1, Nat.add_mod_right, Nat.add_div_right _ (by omega)]
      rfl
/-- The bit of the i-th data cell. -/
def bitAt (K : Nat) (es : List Int) (i : Nat) : Int := bif decide (i < es.length * K) then nth (bitsF K es) i else 0
theorem bitAt_01 (K : Nat) (es : List Int) (i : Nat) : bitAt K es i = 0 ∨ bitAt K es i = 1 := by
  unfold bitAt
  by_cases h : i < es.length * K
  · rw [decide_eq_true h]
    exact bitsF_01 (nth_mem (by rw [bitsF_len]; exact h))
  · rw [decide_eq_false h]; exact .inl rfl
/-- The cells of a grid of size N with the first i of the places set. -/
def setL (N : Nat) (ps : List (Int × Int)) (bs : Nat → Int) (xs : List Int) : Nat → List Int
  | 0 => xs
  | i + 1 => (setL N ps bs xs i).set (idxP N (nthP ps i)) (bs i)
theorem setL_len (N : Nat) (ps : List (Int × Int)) (bs : Nat → Int) (xs : List Int) : ∀ i, (setL N ps bs xs i).length = xs.length := by
  intro i
  induction i with
  | zero => rfl
  | succ i ih => simp [setL, ih]
theorem set_two (xs : List Int) (k : Nat) (a b : Int) : (xs.set k a).set k b = xs.set k b := by simp
/-- The elements fit: so many, and each of at most d bits. -/
def peC (n d : Int) (es : List Int) : Int := bif sizeB n then (bif inR d 1 8 then (bif decide (es.length = (dataL n.toNat).length / d.toNat) then (bif allIn 0 (2 ^ d.toNat - 1) es then 0 else 5) else 3) else 2) else 2
def peN (n d : Int) (es : List Int) : Int := bif sizeB n then (bif inR d 1 8 then (bif decide (es.length = (dataL n.toNat).length / d.toNat) then (bif allIn 0 (2 ^ d.toNat - 1) es then n else 0) else 0) else 0) else 0
def peL (n d : Int) (es : List Int) : List Int := bif sizeB n then (bif inR d 1 8 then (bif decide (es.length = (dataL n.toNat).length / d.toNat) then (bif allIn 0 (2 ^ d.toNat - 1) es then setL n.toNat (dataL n.toNat) (bitAt d.toNat es) (fixL n.toNat) (dataL n.toNat).length else []) else []) else []) else []
theorem peL_le (n d : Int) (es : List Int) : (peL n d es).length ≤ 1681 := by
  unfold peL
  cases hs : sizeB n
  · simp
  · obtain ⟨N, rfl, h1, h2, h3⟩ := sizeB_true hs
    have hNN : N * N ≤ 1681 := Nat.mul_le_mul h2 h2
    cases inR d 1 8 <;> cases decide (es.length = (dataL (N : Int).toNat).length / d.toNat) <;> cases allIn 0 (2 ^ d.toNat - 1) es <;> simp
    rw [setL_len, fixL_len]; exact hNN
end Go.Proofs.Yteghpageamehkaa
