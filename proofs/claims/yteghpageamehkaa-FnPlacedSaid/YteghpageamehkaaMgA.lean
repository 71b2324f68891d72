/-
  Plain mathematics: elements laid as bits into the data cells of a grid. No program in sight.
-/
import Derived.Test.YteghpageamehkaaC15I
import Derived.Test.YteghpageamehkaaSlice
import Derived.Test.YteghpageamehkaaLst
import Derived.Test.YteghpageamehkaaFw
import Derived.Test.YteghpageamehkaaPut
namespace Go.Proofs.Yteghpageamehkaa
open Go.RowKit

theorem data_in4 {N : Nat} (h : 17 ≤ N ∧ N ≤ 41 ∧ N % 4 = 1) : ∀ p ∈ dataL N, 0 ≤ p.1 ∧ 0 ≤ p.2 ∧ p.1 < N ∧ p.2 < N := fun p hp => by
  obtain ⟨a, b, c, d⟩ := data_in h hp
  exact ⟨a, c, b, d⟩
def headOk : Bool := sizes.all fun N => !noD N (plcR N 0 0) (plcC N 0 0)
theorem headOk_true : headOk = true := by decide +kernel
theorem colP_sub {keep : Int → Int → Bool} {N j m k : Nat} (h : m ≤ k) : ∀ p ∈ colP keep N j m, p ∈ colP keep N j k := by
  induction k with
  | zero => obtain rfl : m = 0 := by omega
            exact fun p hp => hp
  | succ k ih =>
    intro p hp
    by_cases hm : m = k + 1
    · subst hm; exact hp
    · simp only [colP]
      exact List.mem_append_left _ (ih (by omega) p hp)
theorem dpL_sub {keep : Int → Int → Bool} {N j k : Nat} (h : j ≤ k) : ∀ p ∈ dpL keep N j, p ∈ dpL keep N k := by
  induction k with
  | zero => obtain rfl : j = 0 := by omega
            exact fun p hp => hp
  | succ k ih =>
    intro p hp
    by_cases hm : j = k + 1
    · subst hm; exact hp
    · simp only [dpL]
      exact List.mem_append_left _ (ih (by omega) p hp)
theorem data_pos {N : Nat} (h : 17 ≤ N ∧ N ≤ 41 ∧ N % 4 = 1) : 0 < (dataL N).length := by
  have hk := List.all_eq_true.1 headOk_true N (size_mem h)
  have h1 : (plcR N 0 0, plcC N 0 0) ∈ colP (fun r c => !noD N r c) N 0 1 := by simp [colP] at hk ⊢; exact hk
  have h2 : (plcR N 0 0, plcC N 0 0) ∈ dpL (fun r c => !noD N r c) N 1 := by
    simp only [dpL]
    exact List.mem_append_right _ (colP_sub (by omega) _ h1)
  have h3 : (plcR N 0 0, plcC N 0 0) ∈ dataL N := dpL_sub (by omega) _ h2
  exact List.length_pos_of_mem h3
end Go.Proofs.Yteghpageamehkaa
namespace Go.Proofs.Yteghpageamehkaa
open Go.RowKit

/-- One cell taken into an element. -/
def tkS (x c : Int) : Int := bif decide (c < 0) || decide (x < 0) then -1 else 2 * x + c
/-- The element of the first j cells from a on. -/
def tkV (cs : List Int) (a : Nat) : Nat → Int
  | 0 => 0
  | j + 1 => tkS (tkV cs a j) (nth cs (a + j))
/-- The first m elements of K cells each; an unknown one counts as 0. -/
def elL (cs : List Int) (K : Nat) : Nat → List Int
  | 0 => []
  | m + 1 => elL cs K m ++ [max 0 (tkV cs (m * K) K)]
/-- The indices of the unknown ones among the first m elements. -/
def unL (cs : List Int) (K : Nat) : Nat → List Int
  | 0 => []
  | m + 1 => bif decide (tkV cs (m * K) K < 0) then unL cs K m ++ [(m : Int)] else unL cs K m
theorem tkV_b {cs : List Int} (hc : ∀ k, k < cs.length → -1 ≤ nth cs k ∧ nth cs k ≤ 1) {a : Nat} : ∀ j, a + j ≤ cs.length → -1 ≤ tkV cs a j ∧ tkV cs a j < 2 ^ j := by
  intro j
  induction j with
  | zero => intro _; simp [tkV]
  | succ j ih =>
    intro h
    have h1 := ih (by omega)
    have h2 := hc (a + j) (by omega)
    have h3 : (2 : Int) ^ (j + 1) = 2 * 2 ^ j := by rw [Int.pow_succ]; omega
    simp only [tkV, tkS]
    rw [h3]
    by_cases hn : nth cs (a + j) < 0
    · have : (0 : Int) < 2 ^ j := by have : (0 : Int) < 2 := by decide
                                     exact Int.pow_pos this
      simp [hn]; omega
    · by_cases hx : tkV cs a j < 0
      · have : (0 : Int) < 2 ^ j := by have : (0 : Int) < 2 := by decide
                                       exact Int.pow_pos this
        simp [hx]; omega
      · simp [hn, hx]; omega
theorem tkV_256 {cs : List Int} (hc : ∀ k, k < cs.length → -1 ≤ nth cs k ∧ nth cs k ≤ 1) {a j : Nat} (h : a + j ≤ cs.length) (hj : j ≤ 8) : -1 ≤ tkV cs a j ∧ tkV cs a j < 256 := by
  have h1 := tkV_b hc j h
  have h2 : (2 : Int) ^ j ≤ 256 := by
    match j, hj with
    | 0, _ => decide
    | 1, _ => decide
    | 2, _ => decide
    | 3, _ => decide
    | 4, _ => decide
    | 5, _ => decide
    | 6, _ => decide
    | 7, _ => decide
    | 8, _ => decide
    | n + 9, h => omega
  omega
theorem elL_len (cs : List Int) (K : Nat) : ∀ m, (elL cs K m).length = m := by
  intro m
  induction m with
  | zero => rfl
  | succ m ih => simp [elL, ih]
theorem unL_len (cs : List Int) (K : Nat) : ∀ m, (unL cs K m).length ≤ m := by
  intro m
  induction m with
  | zero => simp [unL]
  | succ m ih =>
    simp only [unL]
    cases decide (tkV cs (m * K) K < 0) <;> simp <;> omega
section
variable {w w' : World} {B B' : Nat} {v1 v2 : Value} {xs ys : List Int}
/-- Two slices of numbers that lie apart. -/
def TwoI (w : World) (B : Nat) (v1 : Value) (xs : List Int) (v2 : Value) (ys : List Int) : Prop :=
  Own w B v1 xs ∧ Own w B v2 ys ∧ ∀ k, v1.ownBlock = some k → v2.ownBlock ≠ some k
theorem TwoI.symm (h : TwoI w B v1 xs v2 ys) : TwoI w B v2 ys v1 xs := ⟨h.2.1, h.1, fun k h1 h2 => h.2.2 k h2 h1⟩
theorem TwoI.first {v' : Value} {zs : List Int} {o : Obj} (h : TwoI w B v1 xs v2 ys) (ho : Own w' B v' zs) (hg : (w.alloc o).grownBy w' v1.ownBlock) (hat : v'.ownBlock = v1.ownBlock ∨ v'.ownBlock = some (w.alloc o).heap.size) : TwoI w' B v' zs v2 ys := by
  refine ⟨ho, World.ownsRow.kept (h.2.1.alloc o) hg ?_, fun k h1 h2 => ?_⟩
  · cases hv : v2.ownBlock with
    | none => exact .inl rfl
    | some k => exact .inr fun e => h.2.2 k e.symm hv
  · rcases hat with e | e
    · exact h.2.2 k (e ▸ h1) h2
    · rw [e] at h1
      have := (World.ownsRow.lt h.2.1 k h2).2
      simp at h1
      omega
theorem TwoI.keep (h : TwoI w B v1 xs v2 ys) (hb : Below w.heap.size w w') : TwoI w' B v1 xs v2 ys := ⟨h.1.keep hb, h.2.1.keep hb, h.2.2⟩
theorem TwoI.more (h : TwoI w B v1 xs v2 ys) (hB : B' ≤ B) : TwoI w B' v1 xs v2 ys := ⟨h.1.more hB, h.2.1.more hB, h.2.2⟩
/-- What is marked in the first leaves the second as it was. -/
theorem TwoI.second (h : TwoI w B v1 xs v2 ys) (hg : w.grownBy w' v1.ownBlock) : Own w' B v2 ys :=
  World.ownsRow.kept h.2.1 hg (by
    cases hv : v2.ownBlock with
    | none => exact .inl rfl
    | some k => exact .inr fun e => h.2.2 k e.symm hv)
end
theorem Own.ri {w : World} {B n c : Nat} {A : Option Addr} {xs : List Int} (h : Own w B (.slice A n c) xs) (hl : xs.length = n) : RI w w.heap.size A n xs := by
  obtain ⟨A', c', e, hr⟩ := h.shape
  simp only [Value.slice.injEq] at e
  obtain ⟨rfl, -, -⟩ := e
  rw [hl] at hr
  exact hr
theorem grown_b {a w w' : World} {r : Option Nat} (h : a.grownBy w r) (hb : Below w.heap.size w w') : a.grownBy w' r :=
  ⟨hb.os.trans h.os, hb.tape.trans h.tape, hb.output.trans h.output, Nat.le_trans h.size hb.size, fun j hj hne => (hb.block j (Nat.lt_of_lt_of_le hj h.size)).trans (h.block j hj hne)⟩
theorem grown_t {a b c : World} {g : Nat} (h : a.grownBy b (some g)) (k : b.grownBy c (some g)) : a.grownBy c (some g) :=
  ⟨k.os.trans h.os, k.tape.trans h.tape, k.output.trans h.output, Nat.le_trans h.size k.size, fun j hj hne => (k.block j (Nat.lt_of_lt_of_le hj h.size) hne).trans (h.block j hj hne)⟩
end Go.Proofs.Yteghpageamehkaa
namespace Go.Proofs.Yteghpageamehkaa
open Go.RowKit

/-- The bits of elements of K bits each. -/
def bitsF (K : Nat) : List Int → List Int
  | [] => []
  | e :: es => bitsL K e.toNat ++ bitsF K es
theorem bitsF_len (K : Nat) : ∀ es, (bitsF K es).length = es.length * K := by
  intro es
  induction es with
  | nil => simp [bitsF]
  | cons e es ih => simp only [bitsF, List.length_append, List.length_cons, bitsL_len, ih, Nat.succ_mul]; omega
theorem bitsF_snoc (K : Nat) (e : Int) : ∀ es, bitsF K (es ++ [e]) = bitsF K es ++ bitsL K e.toNat := by
  intro es
  induction es with
  | nil => simp [bitsF]
  | cons x es ih => simp only [List.cons_append, bitsF, ih, List.append_assoc]
theorem bitsF_take {K k : Nat} {es : List Int} (h : k < es.length) : bitsF K (es.take (k + 1)) = bitsF K (es.take k) ++ bitsL K (nth es k).toNat := by
  rw [take_nth h, bitsF_snoc]
theorem bitsF_01 {K : Nat} : ∀ {es : List Int} {x : Int}, x ∈ bitsF K es → x = 0 ∨ x = 1 := by
  intro es
  induction es with
  | nil => intro x h; simp [bitsF] at h
  | cons e es ih =>
    intro x h
    simp only [bitsF, List.mem_append] at h
    rcases h with h | h
    · exact bitsL_01 h
    · exact ih h
theorem nth_app_lt {xs ys : List Int} {i : Nat} (h : i < xs.length) : nth (xs ++ ys) i = nth xs i := by
  unfold nth; simp [List.getD_eq_getElem?_getD, List.getElem?_append_left h]
theorem nth_app_ge {xs ys : List Int} {i : Nat} (h : xs.length ≤ i) : nth (xs ++ ys) i = nth ys (i - xs.length) := by
  unfold nth; simp [List.getD_eq_getElem?_getD, List.getElem?_append_right h]
theorem nth_bitsF {K : Nat} (hK : 1 ≤ K) : ∀ {es : List Int} {i : Nat}, i < es.length * K → nth (bitsF K es) i = (((nth es (i / K)).toNat / 2 ^ (K - 1 - i % K) % 2 : Nat) : Int) := by
  intro es
  induction es with
  | nil => intro i h; simp at h
  | cons e es ih =>
    intro i h
    simp only [bitsF]
    by_cases hi : i < K
    · rw [nth_app_lt (by rw [bitsL_len]; exact hi), nth_bitsL hi, Nat.div_eq_of_lt hi, Nat.mod_eq_of_lt hi]
      rfl
    · have h1 : i - K < es.length * K := by simp only [List.length_cons, Nat.succ_mul] at h; omega
      obtain ⟨j, rfl⟩ : ∃ j, i = j + K := ⟨i - K, by omega⟩
      rw [Nat.add_sub_cancel] at h1
      rw [nth_app_ge (by rw [bitsL_len]; omega), bitsL_len, Nat.add_sub_cancel, ih h1, Nat.add_mod_right, Nat.add_div_right _ (by omega)]
      rfl
/-- The bit of the i-th data cell. -/
def bitAt (K : Nat) (es : List Int) (i : Nat) : Int := bif decide (i < es.length * K) then nth (bitsF K es) i else 0
theorem bitAt_01 (K : Nat) (es : List Int) (i : Nat) : bitAt K es i = 0 ∨ bitAt K es i = 1 := by
  unfold bitAt
  by_cases h : i < es.length * K
  · rw [decide_eq_true h]
    exact bitsF_01 (nth_mem (by rw [bitsF_len]; exact h))
  · rw [decide_eq_false h]; exact .inl rfl
/-- The cells of a grid of size N with the first i of the places set. -/
def setL (N : Nat) (ps : List (Int × Int)) (bs : Nat → Int) (xs : List Int) : Nat → List Int
  | 0 => xs
  | i + 1 => (setL N ps bs xs i).set (idxP N (nthP ps i)) (bs i)
theorem setL_len (N : Nat) (ps : List (Int × Int)) (bs : Nat → Int) (xs : List Int) : ∀ i, (setL N ps bs xs i).length = xs.length := by
  intro i
  induction i with
  | zero => rfl
  | succ i ih => simp [setL, ih]
theorem set_two (xs : List Int) (k : Nat) (a b : Int) : (xs.set k a).set k b = xs.set k b := by simp
/-- The elements fit: so many, and each of at most d bits. -/
def peC (n d : Int) (es : List Int) : Int := bif sizeB n then (bif inR d 1 8 then (bif decide (es.length = (dataL n.toNat).length / d.toNat) then (bif allIn 0 (2 ^ d.toNat - 1) es then 0 else 5) else 3) else 2) else 2
def peN (n d : Int) (es : List Int) : Int := bif sizeB n then (bif inR d 1 8 then (bif decide (es.length = (dataL n.toNat).length / d.toNat) then (bif allIn 0 (2 ^ d.toNat - 1) es then n else 0) else 0) else 0) else 0
def peL (n d : Int) (es : List Int) : List Int := bif sizeB n then (bif inR d 1 8 then (bif decide (es.length = (dataL n.toNat).length / d.toNat) then (bif allIn 0 (2 ^ d.toNat - 1) es then setL n.toNat (dataL n.toNat) (bitAt d.toNat es) (fixL n.toNat) (dataL n.toNat).length else []) else []) else []) else []
theorem peL_le (n d : Int) (es : List Int) : (peL n d es).length ≤ 1681 := by
  unfold peL
  cases hs : sizeB n
  · simp
  · obtain ⟨N, rfl, h1, h2, h3⟩ := sizeB_true hs
    have hNN : N * N ≤ 1681 := Nat.mul_le_mul h2 h2
    cases inR d 1 8 <;> cases decide (es.length = (dataL (N : Int).toNat).length / d.toNat) <;> cases allIn 0 (2 ^ d.toNat - 1) es <;> simp
    rw [setL_len, fixL_len]; exact hNN
end Go.Proofs.Yteghpageamehkaa
