/-
  Plain mathematics: which elements some places touch. No program in sight.
-/
import Derived.Test.YteghpageamehkaaDat
import Derived.Test.YteghpageamehkaaPut
namespace Go.Proofs.Yteghpageamehkaa
open Go.RowKit

def nthBo (bs : List Bool) (k : Nat) : Bool := bs.getD k false
theorem nthBo_set {bs : List Bool} {a k : Nat} {v : Bool} (hk : k < bs.length) : nthBo (bs.set a v) k = if a = k then v else nthBo bs k := by
  unfold nthBo
  by_cases h : a = k
  · subst h; simp [List.getD_eq_getElem?_getD, hk]
  · simp [List.getD_eq_getElem?_getD, List.getElem?_set_ne h, h]
theorem nthBo_rep {n k : Nat} : nthBo (List.replicate n false) k = false := by
  unfold nthBo
  simp [List.getD_eq_getElem?_getD, List.getElem?_replicate]
  split <;> rfl
/-- The indices below m at which f is true. -/
def idxL (f : Nat → Bool) : Nat → List Int
  | 0 => []
  | m + 1 => bif f m then idxL f m ++ [(m : Int)] else idxL f m
theorem idxL_len (f : Nat → Bool) : ∀ m, (idxL f m).length ≤ m := by
  intro m
  induction m with
  | zero => simp [idxL]
  | succ m ih => simp only [idxL]; cases f m <;> simp <;> omega
theorem idxL_congr {f g : Nat → Bool} : ∀ {m : Nat}, (∀ e, e < m → f e = g e) → idxL f m = idxL g m := by
  intro m
  induction m with
  | zero => intro _; rfl
  | succ m ih => intro h; simp only [idxL]; rw [h m (by omega), ih (fun e he => h e (by omega))]
/-- One place touches its element. -/
def tch1 (o : Option Int) (K q : Nat) (bs : List Bool) : List Bool :=
  match o with
  | none => bs
  | some i => if i.toNat / K < q then bs.set (i.toNat / K) true else bs
/-- The touched elements, of q, by the first k places. -/
def tchB (dp qs : List (Int × Int)) (K q : Nat) : Nat → List Bool
  | 0 => List.replicate q false
  | k + 1 => tch1 (ixL dp (nthP qs k).1 (nthP qs k).2 dp.length) K q (tchB dp qs K q k)
theorem tchB_len (dp qs : List (Int × Int)) (K q : Nat) : ∀ k, (tchB dp qs K q k).length = q := by
  intro k
  induction k with
  | zero => simp [tchB]
  | succ k ih =>
    simp only [tchB, tch1]
    split
    · exact ih
    · split <;> simp [ih]
theorem tchB_iff {dp qs : List (Int × Int)} {K q e : Nat} (he : e < q) : ∀ k, nthBo (tchB dp qs K q k) e = true ↔ ∃ j, j < k ∧ ∃ i, ixL dp (nthP qs j).1 (nthP qs j).2 dp.length = some i ∧ i.toNat / K = e := by
  intro k
  induction k with
  | zero => simp [tchB, nthBo_rep]
  | succ k ih =>
    have key : nthBo (tchB dp qs K q (k + 1)) e = true ↔ (nthBo (tchB dp qs K q k) e = true ∨ ∃ i, ixL dp (nthP qs k).1 (nthP qs k).2 dp.length = some i ∧ i.toNat / K = e) := by
      simp only [tchB, tch1]
      cases h : ixL dp (nthP qs k).1 (nthP qs k).2 dp.length with
      | none => simp
      | some i =>
        simp only [Option.some.injEq, exists_eq_left']
        by_cases hi : i.toNat / K < q
        · rw [if_pos hi, nthBo_set (by rw [tchB_len]; exact he)]
          by_cases h2 : i.toNat / K = e
          · simp [h2]
          · simp [h2]
        · rw [if_neg hi]
          have : ¬ i.toNat / K = e := by omega
          simp [this]
    rw [key, ih]
    constructor
    · rintro (⟨j, hj, h⟩ | h)
      · exact ⟨j, by omega, h⟩
      · exact ⟨k, by omega, h⟩
    · rintro ⟨j, hj, h⟩
      by_cases hjk : j = k
      · subst hjk; exact .inr h
      · exact .inl ⟨j, by omega, h⟩
/-- Is a place one of a list? -/
def isQ (qs : List (Int × Int)) (p : Int × Int) : Bool := (List.range qs.length).any fun j => eqP p.1 p.2 (nthP qs j)
theorem isQ_true {qs : List (Int × Int)} {p : Int × Int} {j : Nat} (hj : j < qs.length) (h : eqP p.1 p.2 (nthP qs j) = true) : isQ qs p = true :=
  List.any_eq_true.2 ⟨j, List.mem_range.2 hj, h⟩
theorem isQ_false {qs : List (Int × Int)} {p : Int × Int} (h : ∀ j, j < qs.length → eqP p.1 p.2 (nthP qs j) = false) : isQ qs p = false := by
  cases e : isQ qs p with
  | false => rfl
  | true =>
    obtain ⟨j, hj, h2⟩ := List.any_eq_true.1 e
    rw [h j (List.mem_range.1 hj)] at h2
    exact absurd h2 (by decide)
theorem isQ_iff {qs : List (Int × Int)} {p : Int × Int} : isQ qs p = true ↔ ∃ j, j < qs.length ∧ nthP qs j = p := by
  constructor
  · intro h
    obtain ⟨j, hj, h2⟩ := List.any_eq_true.1 h
    exact ⟨j, List.mem_range.1 hj, eqP_iff.1 h2⟩
  · rintro ⟨j, hj, h⟩
    exact isQ_true hj (eqP_iff.2 h)
/-- The marks of the elements of the first i data cells. -/
def mrkL (dp qs : List (Int × Int)) (K M : Nat) : Nat → List Int
  | 0 => List.replicate M 0
  | i + 1 => bif isQ qs (nthP dp i) then (mrkL dp qs K M i).set (i / K) 1 else mrkL dp qs K M i
theorem mrkL_len (dp qs : List (Int × Int)) (K M : Nat) : ∀ i, (mrkL dp qs K M i).length = M := by
  intro i
  induction i with
  | zero => simp [mrkL]
  | succ i ih => simp only [mrkL]; cases isQ qs (nthP dp i) <;> simp [ih]
theorem mrkL_iff {dp qs : List (Int × Int)} {K M e : Nat} (he : e < M) : ∀ i, ¬ nth (mrkL dp qs K M i) e = 0 ↔ ∃ j, j < i ∧ isQ qs (nthP dp j) = true ∧ j / K = e := by
  intro i
  induction i with
  | zero =>
    have : nth (List.replicate M (0 : Int)) e = 0 := by unfold nth; simp [List.getD_eq_getElem?_getD, he]
    simp [mrkL, this]
  | succ i ih =>
    have key : (¬ nth (mrkL dp qs K M (i + 1)) e = 0) ↔ (¬ nth (mrkL dp qs K M i) e = 0) ∨ (isQ qs (nthP dp i) = true ∧ i / K = e) := by
      simp only [mrkL]
      cases h : isQ qs (nthP dp i) with
      | false => simp
      | true =>
        simp only [cond_true, true_and]
        rw [nth_set (by rw [mrkL_len]; exact he)]
        by_cases h2 : i / K = e
        · simp [h2]
        · simp [h2]
    rw [key, ih]
    constructor
    · rintro (⟨j, hj, h⟩ | h)
      · exact ⟨j, by omega, h⟩
      · exact ⟨i, by omega, h⟩
    · rintro ⟨j, hj, h⟩
      by_cases hji : j = i
      · subst hji; exact .inr h
      · exact .inl ⟨j, by omega, h⟩
theorem ixL_some {ps : List (Int × Int)} {r c i : Int} : ∀ {n : Nat}, ixL ps r c n = some i → ∃ k : Nat, i = k ∧ k < n ∧ nthP ps k = (r, c) := by
  intro n
  induction n with
  | zero => intro h; simp [ixL] at h
  | succ n ih =>
    intro h
    simp only [ixL] at h
    split at h
    · rename_i he
      simp only [Option.some.injEq] at h
      exact ⟨n, h.symm, by omega, eqP_iff.1 he⟩
    · obtain ⟨k, h1, h2, h3⟩ := ih h
      exact ⟨k, h1, by omega, h3⟩
theorem tch_same {N K q : Nat} (h : 17 ≤ N ∧ N ≤ 41 ∧ N % 4 = 1) {qs : List (Int × Int)} {e : Nat} (he : e < q) (hq : q ≤ (dataL N).length) :
    nthBo (tchB (dataL N) qs K q qs.length) e = !decide (nth (mrkL (dataL N) qs K (dataL N).length (dataL N).length) e = 0) := by
  have h1 := tchB_iff (dp := dataL N) (qs := qs) (K := K) he qs.length
  have h2 := mrkL_iff (dp := dataL N) (qs := qs) (K := K) (M := (dataL N).length) (e := e) (by omega) (dataL N).length
  have h3 : nthBo (tchB (dataL N) qs K q qs.length) e = true ↔ ¬ nth (mrkL (dataL N) qs K (dataL N).length (dataL N).length) e = 0 := by
    rw [h1, h2]
    constructor
    · rintro ⟨j, hj, i, hi, hik⟩
      obtain ⟨k, rfl, hk, hp⟩ := ixL_some hi
      rw [Int.toNat_natCast] at hik
      exact ⟨k, hk, isQ_iff.2 ⟨j, hj, hp.symm⟩, hik⟩
    · rintro ⟨k, hk, hq2, hke⟩
      obtain ⟨j, hj, hp⟩ := isQ_iff.1 hq2
      refine ⟨j, hj, (k : Int), ?_, by rw [Int.toNat_natCast]; exact hke⟩
      exact ix_found h hk (eqP_iff.2 hp.symm)
  cases hb : nthBo (tchB (dataL N) qs K q qs.length) e with
  | true => simp [h3.1 hb]
  | false =>
    have : nth (mrkL (dataL N) qs K (dataL N).length (dataL N).length) e = 0 := by
      by_cases h4 : nth (mrkL (dataL N) qs K (dataL N).length (dataL N).length) e = 0
      · exact h4
      · have := h3.2 h4; rw [hb] at this; exact absurd this (by decide)
    simp [this]
/-- What TouchedElements returns. -/
def tuC (n d : Int) (qs : List (Int × Int)) : Int := bif sizeB n then (bif inR d 1 8 then (bif decide (qs.length ≤ 40000) then 0 else 3) else 2) else 2
def tuL (n d : Int) (qs : List (Int × Int)) : List Int := bif sizeB n then (bif inR d 1 8 then (bif decide (qs.length ≤ 40000) then idxL (nthBo (tchB (dataL n.toNat) qs d.toNat ((dataL n.toNat).length / d.toNat) qs.length)) ((dataL n.toNat).length / d.toNat) else []) else []) else []
theorem tuL_le (n d : Int) (qs : List (Int × Int)) : (tuL n d qs).length ≤ 1640 := by
  unfold tuL
  cases hs : sizeB n
  · simp
  · obtain ⟨N, rfl, h1, h2, h3⟩ := sizeB_true hs
    have hM := dataL_le h2
    cases inR d 1 8 <;> cases decide (qs.length ≤ 40000) <;> simp
    have h4 := idxL_len (nthBo (tchB (dataL N) qs d.toNat ((dataL N).length / d.toNat) qs.length)) ((dataL N).length / d.toNat)
    have h5 := Nat.div_le_self (dataL N).length d.toNat
    omega
end Go.Proofs.Yteghpageamehkaa
