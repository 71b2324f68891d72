/-
  The order of a stream: which block and which element of its word each element of the stream is. Plain Lean.
-/
import Derived.Test.YtbgcbjfimjfbpaaC07
namespace Go.Proofs.Ytbgcbjfimjfbpaa
open Go.RowKit

def row1 (D C e b : Nat) : List (Nat × Nat) := (List.range b).flatMap fun k => if e < shN D C k then [(k, e)] else []
def ord1 (D C e : Nat) : List (Nat × Nat) := (List.range e).flatMap fun i => row1 D C i C
def row2 (D C e b : Nat) : List (Nat × Nat) := (List.range b).flatMap fun k => [(k, shN D C k + e)]
def ord2 (D C e : Nat) : List (Nat × Nat) := (List.range e).flatMap fun i => row2 D C i C
/-- How many rounds the first part has. -/
def lngN (D C : Nat) : Nat := shN D C (C - 1)
def ordL (D C H : Nat) : List (Nat × Nat) := ord1 D C (lngN D C) ++ ord2 D C H

theorem fm_succ {β : Type} (f : Nat → List β) (n : Nat) : (List.range (n + 1)).flatMap f = (List.range n).flatMap f ++ f n := by simp [List.range_succ]
theorem fm_len {β : Type} (f : Nat → List β) {a b : Nat} (h : a ≤ b) : ((List.range a).flatMap f).length ≤ ((List.range b).flatMap f).length := by
  induction b with
  | zero => obtain rfl : a = 0 := by omega
            exact Nat.le_refl _
  | succ b ih =>
    rcases Nat.lt_or_ge b a with h1 | h1
    · obtain rfl : a = b + 1 := by omega
      exact Nat.le_refl _
    · rw [fm_succ, List.length_append]; have := ih h1; omega
theorem row1_zero (D C e : Nat) : row1 D C e 0 = [] := rfl
theorem row2_zero (D C e : Nat) : row2 D C e 0 = [] := rfl
theorem ord1_zero (D C : Nat) : ord1 D C 0 = [] := rfl
theorem ord2_zero (D C : Nat) : ord2 D C 0 = [] := rfl
theorem row1_yes {D C e b : Nat} (h : e < shN D C b) : row1 D C e (b + 1) = row1 D C e b ++ [(b, e)] := by
  unfold row1; rw [fm_succ, if_pos h]
theorem row1_no {D C e b : Nat} (h : ¬ e < shN D C b) : row1 D C e (b + 1) = row1 D C e b := by
  unfold row1; rw [fm_succ, if_neg h, List.append_nil]
theorem row2_succ (D C e b : Nat) : row2 D C e (b + 1) = row2 D C e b ++ [(b, shN D C b + e)] := by
  unfold row2; rw [fm_succ]
theorem ord1_succ (D C e : Nat) : ord1 D C (e + 1) = ord1 D C e ++ row1 D C e C := by unfold ord1; rw [fm_succ]
theorem ord2_succ (D C e : Nat) : ord2 D C (e + 1) = ord2 D C e ++ row2 D C e C := by unfold ord2; rw [fm_succ]

theorem row1_len {D C e : Nat} : ∀ {b : Nat}, b ≤ C → (row1 D C e b).length = if e < D / C then b else if e = D / C then b - (C - D % C) else 0
  | 0, _ => by rw [row1_zero]; split <;> simp
  | b + 1, h => by
    have ih := row1_len (D := D) (C := C) (e := e) (b := b) (by omega)
    by_cases h1 : e < shN D C b
    · rw [row1_yes h1, List.length_append, ih]
      unfold shN at h1
      by_cases h2 : C - D % C ≤ b
      · rw [if_pos h2] at h1
        by_cases h3 : e < D / C
        · rw [if_pos h3, if_pos h3]; rfl
        · have h4 : e = D / C := by omega
          rw [if_neg h3, if_neg h3, if_pos h4, if_pos h4]; simp; omega
      · rw [if_neg h2] at h1
        rw [if_pos (by omega), if_pos (by omega)]; rfl
    · rw [row1_no h1, ih]
      unfold shN at h1
      by_cases h2 : C - D % C ≤ b
      · rw [if_pos h2] at h1
        rw [if_neg (by omega), if_neg (by omega), if_neg (by omega), if_neg (by omega)]
      · rw [if_neg h2] at h1
        have h6 : ¬ e < D / C := by omega
        rw [if_neg h6, if_neg h6]
        by_cases h5 : e = D / C
        · rw [if_pos h5, if_pos h5]; omega
        · rw [if_neg h5, if_neg h5]
theorem ord1_len {D C : Nat} : ∀ {e : Nat}, e ≤ D / C → (ord1 D C e).length = e * C
  | 0, _ => by simp [ord1_zero]
  | e + 1, h => by
    rw [ord1_succ, List.length_append, ord1_len (by omega), row1_len (Nat.le_refl _), if_pos (by omega), Nat.succ_mul]
theorem ord1_all {D C : Nat} (hC : 1 ≤ C) : (ord1 D C (lngN D C)).length = D := by
  have hr : D % C < C := Nat.mod_lt _ hC
  have hq := Nat.div_add_mod D C
  rw [Nat.mul_comm] at hq
  unfold lngN shN
  by_cases h0 : D % C = 0
  · rw [if_neg (by omega), Nat.add_zero, ord1_len (Nat.le_refl _)]; omega
  · rw [if_pos (by omega), ord1_succ, List.length_append, ord1_len (Nat.le_refl _), row1_len (Nat.le_refl _), if_neg (by omega), if_pos rfl]; omega
theorem ord1_next {D C : Nat} (hC : 1 ≤ C) : ord1 D C (D / C + 1) = ord1 D C (lngN D C) := by
  have hr : D % C < C := Nat.mod_lt _ hC
  unfold lngN shN
  by_cases h0 : D % C = 0
  · rw [if_neg (by omega), ord1_succ]
    have h1 : row1 D C (D / C) C = [] := by
      apply List.length_eq_zero_iff.1
      rw [row1_len (Nat.le_refl _), if_neg (by omega), if_pos rfl]; omega
    rw [h1, List.append_nil, Nat.add_zero]
  · rw [if_pos (by omega)]
theorem part1_lt {D C e b : Nat} (hC : 1 ≤ C) (he : e < lngN D C) (hb : b < C) (h : e < shN D C b) : (ord1 D C e ++ row1 D C e b).length < D := by
  have h1 : (row1 D C e (b + 1)).length ≤ (row1 D C e C).length := fm_len _ (by omega)
  have h2 : (ord1 D C (e + 1)).length ≤ (ord1 D C (lngN D C)).length := fm_len _ (by omega)
  rw [row1_yes h, List.length_append] at h1
  rw [ord1_succ, List.length_append, ord1_all hC] at h2
  rw [List.length_append]
  simp at h1
  omega
theorem row2_len (D C e : Nat) : ∀ b, (row2 D C e b).length = b
  | 0 => rfl
  | b + 1 => by rw [row2_succ, List.length_append, row2_len D C e b]; rfl
theorem ord2_len (D C : Nat) : ∀ e, (ord2 D C e).length = C * e
  | 0 => rfl
  | e + 1 => by rw [ord2_succ, List.length_append, ord2_len D C e, row2_len, Nat.mul_succ]
theorem part2_lt {D C H e b : Nat} (hC : 1 ≤ C) (he : e < H) (hb : b < C) : (ord1 D C (lngN D C) ++ (ord2 D C e ++ row2 D C e b)).length < D + C * H := by
  rw [List.length_append, List.length_append, ord1_all hC, ord2_len, row2_len]
  have h1 := Nat.mul_le_mul_left C (show e + 1 ≤ H from he)
  rw [Nat.mul_succ] at h1
  omega
theorem ordL_len {D C : Nat} (H : Nat) (hC : 1 ≤ C) : (ordL D C H).length = D + C * H := by
  unfold ordL; rw [List.length_append, ord1_all hC, ord2_len]

/-! ### What lies in it -/
theorem mem_row1 {D C e b : Nat} {p : Nat × Nat} : p ∈ row1 D C e b ↔ p.1 < b ∧ p.2 = e ∧ e < shN D C p.1 := by
  unfold row1
  rw [List.mem_flatMap]
  constructor
  · rintro ⟨k, hk, hp⟩
    have hk := List.mem_range.1 hk
    split at hp
    · rw [List.mem_singleton] at hp; subst hp; exact ⟨hk, rfl, by assumption⟩
    · cases hp
  · rintro ⟨h1, h2, h3⟩
    refine ⟨p.1, List.mem_range.2 h1, ?_⟩
    rw [if_pos h3, List.mem_singleton, ← h2]
theorem mem_ord1 {D C e : Nat} {p : Nat × Nat} : p ∈ ord1 D C e ↔ p.2 < e ∧ p.1 < C ∧ p.2 < shN D C p.1 := by
  unfold ord1
  rw [List.mem_flatMap]
  constructor
  · rintro ⟨i, hi, hp⟩
    have hi := List.mem_range.1 hi
    obtain ⟨h1, h2, h3⟩ := mem_row1.1 hp
    exact ⟨by omega, h1, by omega⟩
  · rintro ⟨h1, h2, h3⟩
    exact ⟨p.2, List.mem_range.2 h1, mem_row1.2 ⟨h2, rfl, h3⟩⟩
theorem mem_row2 {D C e b : Nat} {p : Nat × Nat} : p ∈ row2 D C e b ↔ p.1 < b ∧ p.2 = shN D C p.1 + e := by
  unfold row2
  rw [List.mem_flatMap]
  constructor
  · rintro ⟨k, hk, hp⟩
    rw [List.mem_singleton] at hp; subst hp; exact ⟨List.mem_range.1 hk, rfl⟩
  · rintro ⟨h1, h2⟩
    exact ⟨p.1, List.mem_range.2 h1, by rw [List.mem_singleton, ← h2]⟩
theorem mem_ord2 {D C e : Nat} {p : Nat × Nat} : p ∈ ord2 D C e ↔ p.1 < C ∧ shN D C p.1 ≤ p.2 ∧ p.2 < shN D C p.1 + e := by
  unfold ord2
  rw [List.mem_flatMap]
  constructor
  · rintro ⟨i, hi, hp⟩
    have hi := List.mem_range.1 hi
    obtain ⟨h1, h2⟩ := mem_row2.1 hp
    exact ⟨h1, by omega, by omega⟩
  · rintro ⟨h1, h2, h3⟩
    exact ⟨p.2 - shN D C p.1, List.mem_range.2 (by omega), mem_row2.2 ⟨h1, by omega⟩⟩
theorem nodup_snoc {α : Type} {l : List α} {x : α} (h : l.Nodup) (hx : x ∉ l) : (l ++ [x]).Nodup := by
  rw [List.nodup_append]
  exact ⟨h, by simp, fun a ha b hb e => hx (by rw [List.mem_singleton] at hb; rw [← hb, ← e]; exact ha)⟩
theorem row1_nodup (D C e : Nat) : ∀ b, (row1 D C e b).Nodup
  | 0 => by rw [row1_zero]; exact List.nodup_nil
  | b + 1 => by
    by_cases h : e < shN D C b
    · rw [row1_yes h]; exact nodup_snoc (row1_nodup D C e b) (fun hm => by have := (mem_row1.1 hm).1; simp at this)
    · rw [row1_no h]; exact row1_nodup D C e b
theorem row2_nodup (D C e : Nat) : ∀ b, (row2 D C e b).Nodup
  | 0 => by rw [row2_zero]; exact List.nodup_nil
  | b + 1 => by rw [row2_succ]; exact nodup_snoc (row2_nodup D C e b) (fun hm => by have := (mem_row2.1 hm).1; simp at this)
theorem ord1_nodup (D C : Nat) : ∀ e, (ord1 D C e).Nodup
  | 0 => by rw [ord1_zero]; exact List.nodup_nil
  | e + 1 => by
    rw [ord1_succ, List.nodup_append]
    refine ⟨ord1_nodup D C e, row1_nodup D C e C, fun a ha b hb hab => ?_⟩
    subst hab
    have h1 := (mem_ord1.1 ha).1
    have h2 := (mem_row1.1 hb).2.1
    omega
theorem ord2_nodup (D C : Nat) : ∀ e, (ord2 D C e).Nodup
  | 0 => by rw [ord2_zero]; exact List.nodup_nil
  | e + 1 => by
    rw [ord2_succ, List.nodup_append]
    refine ⟨ord2_nodup D C e, row2_nodup D C e C, fun a ha b hb hab => ?_⟩
    subst hab
    have h1 := (mem_ord2.1 ha).2.2
    have h2 := (mem_row2.1 hb).2
    omega
theorem ordL_nodup (D C H : Nat) : (ordL D C H).Nodup := by
  unfold ordL
  rw [List.nodup_append]
  refine ⟨ord1_nodup D C _, ord2_nodup D C _, fun a ha b hb hab => ?_⟩
  subst hab
  have h1 := (mem_ord1.1 ha).2.2
  have h2 := (mem_ord2.1 hb).2.1
  omega
theorem ordL_in {D C H : Nat} {p : Nat × Nat} (h : p ∈ ordL D C H) : p.1 < C ∧ p.2 < shN D C p.1 + H := by
  unfold ordL at h
  rcases List.mem_append.1 h with h | h
  · obtain ⟨h1, h2, h3⟩ := mem_ord1.1 h; exact ⟨h2, by omega⟩
  · obtain ⟨h1, h2, h3⟩ := mem_ord2.1 h; exact ⟨h1, by omega⟩
/-- The number at place k of the order. -/
def ordN (D C H k : Nat) : Nat × Nat := (ordL D C H).getD k (0, 0)
theorem ordN_get {D C H k : Nat} (hC : 1 ≤ C) (hk : k < D + C * H) : (ordL D C H)[k]? = some (ordN D C H k) := by
  unfold ordN
  rw [List.getElem?_eq_getElem (by rw [ordL_len H hC]; exact hk), List.getD_eq_getElem?_getD, List.getElem?_eq_getElem (by rw [ordL_len H hC]; exact hk)]; rfl
theorem ordN_in {D C H k : Nat} (hC : 1 ≤ C) (hk : k < D + C * H) : (ordN D C H k).1 < C ∧ (ordN D C H k).2 < shN D C (ordN D C H k).1 + H :=
  ordL_in (List.mem_of_getElem? (ordN_get hC hk))
theorem ordL_take {D C H k : Nat} (hC : 1 ≤ C) (hk : k < D + C * H) : (ordL D C H).take (k + 1) = (ordL D C H).take k ++ [ordN D C H k] := by
  rw [List.take_add_one, ordN_get hC hk]; rfl
end Go.Proofs.Ytbgcbjfimjfbpaa
