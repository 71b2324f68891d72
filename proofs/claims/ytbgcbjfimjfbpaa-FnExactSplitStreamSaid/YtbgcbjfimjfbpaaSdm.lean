/-
  How damage is spread over the words of a stream. Plain Lean.
-/
import Derived.Test.YtbgcbjfimjfbpaaWds
import Derived.Test.YtbgcbjfimjfbpaaC05
namespace Go.Proofs.Ytbgcbjfimjfbpaa
open Go.RowKit

/-- What an element weighs. -/
def wtN (dm er : List Int) (i : Nat) : Int := if hasB i er then 1 else if hasB i dm then 2 else 0
theorem wtN_range (dm er : List Int) (i : Nat) : 0 ≤ wtN dm er i ∧ wtN dm er i ≤ 2 := by
  unfold wtN
  split
  · omega
  · split <;> omega
/-- Numbers set at the places ys. -/
def setAt (v : Int) (L : List Int) (ys : List Int) : List Int := ys.foldl (fun L y => L.set y.toNat v) L
theorem setAt_len (v : Int) (L : List Int) (ys : List Int) : (setAt v L ys).length = L.length := by
  unfold setAt
  induction ys generalizing L with
  | nil => rfl
  | cons y ys ih => rw [List.foldl_cons, ih, List.length_set]
theorem setAt_take {v : Int} {L ys : List Int} {k : Nat} (hk : k < ys.length) : setAt v L (ys.take (k + 1)) = (setAt v L (ys.take k)).set (nth ys k).toNat v := by
  rw [take_nth hk]; unfold setAt; rw [List.foldl_append]; rfl
theorem nth_set_eq {L : List Int} {i : Nat} {v : Int} (h : i < L.length) : nth (L.set i v) i = v := by
  rw [nth_lt (by simpa using h)]; simp
theorem nth_set_ne {L : List Int} {i j : Nat} {v : Int} (h : i ≠ j) : nth (L.set i v) j = nth L j := by
  unfold nth; simp [List.getD_eq_getElem?_getD, List.getElem?_set_ne h]
theorem nth_setAt {v : Int} {L ys : List Int} (hy : ∀ k, k < ys.length → 0 ≤ nth ys k) {i : Nat} (hi : i < L.length) : ∀ k, k ≤ ys.length → nth (setAt v L (ys.take k)) i = if hasB i (ys.take k) then v else nth L i
  | 0, _ => by simp [setAt, hasB]
  | k + 1, hk => by
    have ih := nth_setAt (v := v) hy hi k (by omega)
    have hk' : k < ys.length := hk
    rw [setAt_take hk', hasB_take hk']
    by_cases e : nth ys k = (i : Int)
    · rw [e, Int.toNat_natCast, nth_set_eq (by rw [setAt_len]; exact hi)]
      simp
    · have h0 := hy k hk'
      rw [nth_set_ne (by omega), ih]
      have : (nth ys k == (i : Int)) = false := by simpa using e
      rw [this, Bool.or_false]
/-- The weights of a stream of N elements. -/
def wtL (dm er : List Int) (N : Nat) : List Int := setAt 1 (setAt 2 (List.replicate N 0) dm) er
theorem wtL_len (dm er : List Int) (N : Nat) : (wtL dm er N).length = N := by unfold wtL; rw [setAt_len, setAt_len, List.length_replicate]
theorem nth_wtL {dm er : List Int} {N i : Nat} (h1 : ∀ k, k < dm.length → 0 ≤ nth dm k) (h2 : ∀ k, k < er.length → 0 ≤ nth er k) (hi : i < N) : nth (wtL dm er N) i = wtN dm er i := by
  have a := nth_setAt (v := 1) (L := setAt 2 (List.replicate N 0) dm) h2 (i := i) (by rw [setAt_len, List.length_replicate]; exact hi) er.length (Nat.le_refl _)
  have b := nth_setAt (v := 2) (L := List.replicate N 0) h1 (i := i) (by rw [List.length_replicate]; exact hi) dm.length (Nat.le_refl _)
  rw [List.take_length] at a b
  unfold wtL wtN
  rw [a, b]
  have : nth (List.replicate N (0 : Int)) i = 0 := by rw [nth_lt (by simpa using hi)]; simp
  rw [this]

/-- The sum of a list. -/
def sumL (xs : List Int) : Int := xs.foldl (· + ·) 0
theorem foldl_add (a : Int) (xs : List Int) : xs.foldl (· + ·) a = a + sumL xs := by
  unfold sumL
  induction xs generalizing a with
  | nil => simp
  | cons x xs ih => rw [List.foldl_cons, List.foldl_cons, ih, ih (0 + x)]; omega
theorem sumL_cons (x : Int) (xs : List Int) : sumL (x :: xs) = x + sumL xs := by
  show (x :: xs).foldl (· + ·) 0 = _; rw [List.foldl_cons, foldl_add]; omega
theorem sumL_snoc (xs : List Int) (x : Int) : sumL (xs ++ [x]) = sumL xs + x := by unfold sumL; rw [List.foldl_append]; rfl
theorem sumL_take {xs : List Int} {k : Nat} (hk : k < xs.length) : sumL (xs.take (k + 1)) = sumL (xs.take k) + nth xs k := by rw [take_nth hk, sumL_snoc]
theorem sumL_set {xs : List Int} {e : Nat} {x : Int} (h : e < xs.length) : sumL (xs.set e x) = sumL xs - nth xs e + x := by
  induction xs generalizing e with
  | nil => simp at h
  | cons y ys ih =>
    cases e with
    | zero => rw [List.set_cons_zero, sumL_cons, sumL_cons]; simp [nth]; omega
    | succ e =>
      rw [List.set_cons_succ, sumL_cons, sumL_cons, ih (by simpa using h)]
      simp [nth]; omega
theorem sumL_zeros (n : Nat) : sumL (List.replicate n 0) = 0 := by
  induction n with
  | zero => rfl
  | succ n ih => rw [List.replicate_succ, sumL_cons, ih]; rfl

/-- What the words weigh when k elements have come. -/
def smN (D C H : Nat) (f : Nat → Int) : Nat → Nat → Int
  | 0, _ => 0
  | k + 1, b => smN D C H f k b + if (ordN D C H k).1 = b then f k else 0
theorem smN_range {D C H : Nat} {f : Nat → Int} (hf : ∀ i, 0 ≤ f i ∧ f i ≤ 2) : ∀ k b, 0 ≤ smN D C H f k b ∧ smN D C H f k b ≤ 2 * k
  | 0, _ => by simp [smN]
  | k + 1, b => by
    have := smN_range (D := D) (C := C) (H := H) hf k b
    have := hf k
    unfold smN; split <;> omega
theorem wd_zero (ln : Nat → Nat) (xs : List Int) : ∀ (pre : List (Nat × Nat)) (b e : Nat), (b, e) ∉ pre → nth ((wdF ln xs pre).2 b) e = 0 :=
  snoc_ind (fun b e _ => by
    show nth (List.replicate (ln b) 0) e = 0
    unfold nth; rw [List.getD_eq_getElem?_getD, List.getElem?_replicate]; split <;> rfl) fun l x ih b e h => by
    rw [wdF_snoc]
    have h1 : (b, e) ∉ l := fun hm => h (List.mem_append_left _ hm)
    by_cases hb : b = x.1
    · subst hb
      simp only [updW_same]
      have h2 : x.2 ≠ e := fun he => h (List.mem_append_right _ (by rw [List.mem_singleton, ← he]))
      rw [nth_set_ne h2]; exact ih _ _ h1
    · simp only [updW_other hb]; exact ih _ _ h1
theorem wd_sum {D C H : Nat} (hC : 1 ≤ C) (xs : List Int) : ∀ k, k ≤ D + C * H → ∀ b, sumL ((wdF (fun b => shN D C b + H) xs ((ordL D C H).take k)).2 b) = smN D C H (nth xs) k b
  | 0, _, b => by simp [wdF, smN, sumL_zeros]
  | k + 1, hk, b => by
    have ih := wd_sum (D := D) (H := H) hC xs k (by omega) b
    have hk' : k < D + C * H := hk
    rw [ordL_take hC hk', wdF_snoc, wdF_fst, List.length_take, ordL_len H hC, Nat.min_eq_left (show k ≤ D + C * H by omega)]
    have hnd : ((ordL D C H).take (k + 1)).Nodup := List.Sublist.nodup (List.take_sublist _ _) (ordL_nodup D C H)
    rw [ordL_take hC hk', List.nodup_append] at hnd
    have hni : ordN D C H k ∉ (ordL D C H).take k := fun hm => hnd.2.2 _ hm _ (List.mem_singleton.2 rfl) rfl
    obtain ⟨hin1, hin2⟩ := ordN_in (H := H) hC hk'
    unfold smN
    by_cases hb : (ordN D C H k).1 = b
    · rw [if_pos hb]
      subst hb
      simp only [updW_same]
      rw [sumL_set (by rw [wdF_len]; exact hin2), ih, wd_zero (fun b => shN D C b + H) xs _ (ordN D C H k).1 (ordN D C H k).2 hni]
      omega
    · rw [if_neg hb]
      simp only [updW_other (fun h => hb h.symm)]
      rw [ih, Int.add_zero]
theorem smN_congr {D C H : Nat} {f f' : Nat → Int} : ∀ k, (∀ i, i < k → f i = f' i) → ∀ b, smN D C H f k b = smN D C H f' k b
  | 0, _, _ => rfl
  | k + 1, h, b => by unfold smN; rw [smN_congr k (fun i hi => h i (by omega)), h k (by omega)]
/-- The words of the weights weigh what their elements weigh. -/
theorem wd_all {D C H : Nat} (hC : 1 ≤ C) {dm er : List Int} (h1 : ∀ k, k < dm.length → 0 ≤ nth dm k) (h2 : ∀ k, k < er.length → 0 ≤ nth er k) (b : Nat) :
    sumL (wdL D C H (wtL dm er (D + C * H)) b) = smN D C H (wtN dm er) (D + C * H) b := by
  have := wd_sum (D := D) (H := H) hC (wtL dm er (D + C * H)) (D + C * H) (Nat.le_refl _) b
  rw [List.take_of_length_le (by rw [ordL_len H hC]; exact Nat.le_refl _)] at this
  unfold wdL
  rw [this]
  exact smN_congr _ (fun i hi => nth_wtL h1 h2 hi) b

/-! ### The answer -/
def sdB (D C H : Nat) (dm er : List Int) : Bool := (List.range C).all fun b => decide (smN D C H (wtN dm er) (D + C * H) b ≤ H)
theorem sdB_no {D C H b : Nat} {dm er : List Int} (hb : b < C) (h : (H : Int) < smN D C H (wtN dm er) (D + C * H) b) : sdB D C H dm er = false := by
  cases e : sdB D C H dm er with
  | false => rfl
  | true =>
    have := List.all_eq_true.1 e b (List.mem_range.2 hb)
    simp only [decide_eq_true_eq] at this
    omega
theorem sdB_yes {D C H k : Nat} {dm er : List Int} (hk : k = C) (h : ∀ b, b < k → smN D C H (wtN dm er) (D + C * H) b ≤ H) : sdB D C H dm er = true := by
  subst hk
  exact List.all_eq_true.2 fun b hb => decide_eq_true (h b (List.mem_range.1 hb))
/-- What StreamDamage returns. -/
def sdV (lay mk : Bool) (D C H : Nat) (dm er : List Int) : Bool := lay && (mk && sdB D C H dm er)
def sdC (lay mk : Bool) : Int := if lay then if mk then 0 else 5 else 1
theorem sumL_range {xs : List Int} (h : ∀ k, k < xs.length → 0 ≤ nth xs k ∧ nth xs k ≤ 2) : ∀ k, k ≤ xs.length → 0 ≤ sumL (xs.take k) ∧ sumL (xs.take k) ≤ 2 * k
  | 0, _ => by simp [sumL]
  | k + 1, hk => by
    have ih := sumL_range h k (by omega)
    have := h k hk
    rw [sumL_take hk]; omega
theorem wd_range (ln : Nat → Nat) {xs : List Int} (hx : ∀ i, 0 ≤ nth xs i ∧ nth xs i ≤ 2) : ∀ (pre : List (Nat × Nat)) (b e : Nat), 0 ≤ nth ((wdF ln xs pre).2 b) e ∧ nth ((wdF ln xs pre).2 b) e ≤ 2 :=
  snoc_ind (fun b e => by
    have : nth (List.replicate (ln b) (0 : Int)) e = 0 := by unfold nth; rw [List.getD_eq_getElem?_getD, List.getElem?_replicate]; split <;> rfl
    show 0 ≤ nth (List.replicate (ln b) 0) e ∧ nth (List.replicate (ln b) 0) e ≤ 2
    rw [this]; omega) fun l x ih b e => by
    rw [wdF_snoc]
    by_cases hb : b = x.1
    · subst hb
      simp only [updW_same]
      by_cases he : x.2 = e
      · subst he
        by_cases hl : x.2 < ((wdF ln xs l).2 x.1).length
        · rw [nth_set_eq hl]; exact hx _
        · rw [List.set_eq_of_length_le (by omega)]; exact ih _ _
      · rw [nth_set_ne he]; exact ih _ _
    · simp only [updW_other hb]; exact ih _ _
theorem wtL_range {dm er : List Int} {N : Nat} (h1 : ∀ k, k < dm.length → 0 ≤ nth dm k) (h2 : ∀ k, k < er.length → 0 ≤ nth er k) (i : Nat) : 0 ≤ nth (wtL dm er N) i ∧ nth (wtL dm er N) i ≤ 2 := by
  by_cases h : i < N
  · rw [nth_wtL h1 h2 h]; exact wtN_range dm er i
  · have : nth (wtL dm er N) i = 0 := by
      unfold nth
      rw [List.getD_eq_getElem?_getD, List.getElem?_eq_none (by rw [wtL_len]; omega)]; rfl
    rw [this]; omega
theorem wdL_range {D C H N : Nat} {dm er : List Int} (h1 : ∀ k, k < dm.length → 0 ≤ nth dm k) (h2 : ∀ k, k < er.length → 0 ≤ nth er k) (b i : Nat) : 0 ≤ nth (wdL D C H (wtL dm er N) b) i ∧ nth (wdL D C H (wtL dm er N) b) i ≤ 2 :=
  wd_range _ (wtL_range h1 h2) _ _ _
end Go.Proofs.Ytbgcbjfimjfbpaa
