/-
  Contracts of chapter 16: which mask turns which cell; the program's map of conditions.
-/
import Derived.Test.YteghpageamehkaaMapP
import Derived.Test.YteghpageamehkaaC01
namespace Go.Proofs.Yteghpageamehkaa
set_option linter.unusedSimpArgs false
set_option linter.unusedVariables false
open Go.RowKit

/-- Which mask turns a cell. -/
def turnB (m r c : Nat) : Bool :=
  match m with
  | 0 => (r + c) % 2 == 0
  | 1 => r % 2 == 0
  | 2 => c % 3 == 0
  | 3 => (r + c) % 3 == 0
  | 4 => (r / 2 + c / 3) % 2 == 0
  | 5 => r * c % 3 == 0
  | 6 => decide ((r + 2 * c) % 5 < 2)
  | _ => (r * r + c) % 4 == 0
theorem mul_nn {a b : Nat} (ha : a ≤ 41) (hb : b ≤ 41) : (a : Int) * b = ((a * b : Nat) : Int) ∧ a * b ≤ 1681 := ⟨by simp, Nat.mul_le_mul ha hb⟩
theorem cond0_any (r c : Nat) (w : World) (hr : r ≤ 41) (hc : c ≤ 41) : Calls Try.prog 93 #[.int .i64 r, .int .i64 c] w fun e w' => e = .returned (.bool (turnB 0 r c)) ∧ w = w' := by
  go_enter Try.func93, Try.ntmps93
  go_wp2_with fail
  go_ret
  exact ⟨ret_bool (by rw [Bool.eq_iff_iff]; simp [turnB]; omega), rfl⟩
theorem cond1_any (r c : Nat) (w : World) (hr : r ≤ 41) (hc : c ≤ 41) : Calls Try.prog 94 #[.int .i64 r, .int .i64 c] w fun e w' => e = .returned (.bool (turnB 1 r c)) ∧ w = w' := by
  go_enter Try.func94, Try.ntmps94
  go_wp2_with fail
  go_ret
  exact ⟨ret_bool (by rw [Bool.eq_iff_iff]; simp [turnB]; omega), rfl⟩
theorem cond2_any (r c : Nat) (w : World) (hr : r ≤ 41) (hc : c ≤ 41) : Calls Try.prog 95 #[.int .i64 r, .int .i64 c] w fun e w' => e = .returned (.bool (turnB 2 r c)) ∧ w = w' := by
  go_enter Try.func95, Try.ntmps95
  go_wp2_with fail
  go_ret
  exact ⟨ret_bool (by rw [Bool.eq_iff_iff]; simp [turnB]; omega), rfl⟩
theorem cond3_any (r c : Nat) (w : World) (hr : r ≤ 41) (hc : c ≤ 41) : Calls Try.prog 96 #[.int .i64 r, .int .i64 c] w fun e w' => e = .returned (.bool (turnB 3 r c)) ∧ w = w' := by
  go_enter Try.func96, Try.ntmps96
  go_wp2_with fail
  go_ret
  exact ⟨ret_bool (by rw [Bool.eq_iff_iff]; simp [turnB]; omega), rfl⟩
theorem cond4_any (r c : Nat) (w : World) (hr : r ≤ 41) (hc : c ≤ 41) : Calls Try.prog 97 #[.int .i64 r, .int .i64 c] w fun e w' => e = .returned (.bool (turnB 4 r c)) ∧ w = w' := by
  go_enter Try.func97, Try.ntmps97
  go_wp2_with fail
  go_ret
  exact ⟨ret_bool (by rw [Bool.eq_iff_iff]; simp [turnB]; omega), rfl⟩
theorem cond5_any (r c : Nat) (w : World) (hr : r ≤ 41) (hc : c ≤ 41) : Calls Try.prog 98 #[.int .i64 r, .int .i64 c] w fun e w' => e = .returned (.bool (turnB 5 r c)) ∧ w = w' := by
  obtain ⟨hp, hpb⟩ := mul_nn hr hc
  generalize hP : r * c = P at hp hpb
  go_enter Try.func98, Try.ntmps98
  go_wp2_with fail
  go_ret
  exact ⟨ret_bool (by rw [Bool.eq_iff_iff]; simp [turnB, hP]; omega), rfl⟩
theorem cond6_any (r c : Nat) (w : World) (hr : r ≤ 41) (hc : c ≤ 41) : Calls Try.prog 99 #[.int .i64 r, .int .i64 c] w fun e w' => e = .returned (.bool (turnB 6 r c)) ∧ w = w' := by
  go_enter Try.func99, Try.ntmps99
  go_wp2_with fail
  go_ret
  exact ⟨ret_bool (by rw [Bool.eq_iff_iff]; simp [turnB]; omega), rfl⟩
theorem cond7_any (r c : Nat) (w : World) (hr : r ≤ 41) (hc : c ≤ 41) : Calls Try.prog 100 #[.int .i64 r, .int .i64 c] w fun e w' => e = .returned (.bool (turnB 7 r c)) ∧ w = w' := by
  obtain ⟨hp, hpb⟩ := mul_nn hr hr
  generalize hP : r * r = P at hp hpb
  go_enter Try.func100, Try.ntmps100
  go_wp2_with fail
  go_ret
  exact ⟨ret_bool (by rw [Bool.eq_iff_iff]; simp [turnB, hP]; omega), rfl⟩
/-- The function of a mask's condition. -/
def condF (m : Nat) : FuncId := [93, 94, 95, 96, 97, 98, 99, 100].getD m 0
theorem cond_any (m r c : Nat) (w : World) (hm : m < 8) (hr : r ≤ 41) (hc : c ≤ 41) : Calls Try.prog (condF m) #[.int .i64 r, .int .i64 c] w fun e w' => e = .returned (.bool (turnB m r c)) ∧ w = w' := by
  match m, hm with
  | 0, _ => exact cond0_any r c w hr hc
  | 1, _ => exact cond1_any r c w hr hc
  | 2, _ => exact cond2_any r c w hr hc
  | 3, _ => exact cond3_any r c w hr hc
  | 4, _ => exact cond4_any r c w hr hc
  | 5, _ => exact cond5_any r c w hr hc
  | 6, _ => exact cond6_any r c w hr hc
  | 7, _ => exact cond7_any r c w hr hc
open Classical in
/-- How a plain function reads: as its number. -/
noncomputable def funE (v : Value) : Option (DataW Unit × List MemPlace) :=
  if h : ∃ f : Nat, v = .func (.func f) #[] #[] then some (.lit (.int .i64 (h.choose : Int)), []) else some (.lit (.int .i64 (-1)), [])
theorem funE_fn (f : Nat) : funE (.func (.func f) #[] #[]) = some (.lit (.int .i64 (f : Int)), []) := by
  have h : ∃ f' : Nat, Value.func (.func f) #[] #[] = .func (.func f') #[] #[] := ⟨f, rfl⟩
  have h3 : h.choose = f := by
    have h2 := h.choose_spec
    generalize h.choose = g at h2 ⊢
    simp only [Value.func.injEq, Fn.func.injEq, and_true] at h2
    exact h2.symm
  unfold funE
  rw [dif_pos h, h3]
theorem funE_nil : funE .nilFunc = some (.lit (.int .i64 (-1)), []) := by
  unfold funE
  rw [dif_neg (by rintro ⟨f, h⟩; cases h)]
theorem funE_inv {v : Value} {f : Nat} {d : DataW Unit} {ps : List MemPlace} (h : funE v = some (d, ps)) (hd : d = .lit (.int .i64 (f : Int))) : v = .func (.func f) #[] #[] := by
  unfold funE at h
  split at h
  · rename_i hx
    have hs := hx.choose_spec
    simp only [Option.some.injEq, Prod.mk.injEq] at h
    rw [hd] at h
    have h2 := h.1
    simp only [DataW.lit.injEq, Lit.int.injEq, true_and, Int.ofNat_inj] at h2
    rw [h2] at hs
    exact hs
  · simp only [Option.some.injEq, Prod.mk.injEq] at h
    rw [hd] at h
    have h2 := h.1
    simp only [DataW.lit.injEq, Lit.int.injEq, true_and] at h2
    omega
theorem keyedInt : Maps.Keyed Try.prog 2 := Maps.int_keyed Try.underlying2
theorem keyI {m : Int} (h : I64 m) : keyOf Try.prog 2 (.int .i64 m) = some (.int .i64 m) := Maps.keyOf_int_mk Try.underlying2 h.wf
/-- Block b is a map from numbers to functions: f tells the functions' numbers. -/
def MapF (w : World) (b n : Nat) (f : Int → Int) : Prop :=
  ∃ D : DataW Unit, w.ownsMap Try.prog 2 funE b n D ∧ ∀ m, I64 m → D.atKey (.int .i64 m) (.lit (.int .i64 (-1))) = .lit (.int .i64 (f m))
theorem MapF.below {w w' : World} {b n B : Nat} {f : Int → Int} (h : MapF w b n f) (hb : Below B w w') (hB : b < B) : MapF w' b n f := by
  obtain ⟨D, ⟨es, clock, hh, F, hs, hD⟩, h2⟩ := h
  exact ⟨D, ⟨es, clock, (hb.block b hB).trans hh, F, hs, hD⟩, h2⟩
theorem MapF.made (w : World) : MapF (w.alloc (.map #[] 0)) w.heap.size 0 (fun _ => -1) := ⟨.map [], World.ownsMap_made _ _ _ _, fun _ _ => rfl⟩
theorem zero_fun (w : World) : (zeroValue 96).run Try.prog w = .ok .nilFunc w := by kernel_rfl
theorem MapF.look {w : World} {b n : Nat} {f : Int → Int} (h : MapF w b n f) {m : Int} (hm : I64 m) {F : Nat} (hF : f m = F) :
    (Instr.lookup 98 (.map (some b)) (.int .i64 m) false).run Try.prog w = .ok (.func (.func F) #[] #[]) w := by
  obtain ⟨D, h1, h2⟩ := h
  obtain ⟨v, ps, hrun, hv⟩ := h1.lookup keyedInt Try.underlying98 (zero_fun w) funE_nil (keyI hm)
  rw [h2 m hm, hF] at hv
  rw [hrun, funE_inv hv rfl]
theorem MapF.put {w : World} {b n : Nat} {f : Int → Int} (h : MapF w b n f) (hn : n < 100) {m : Int} (hm : I64 m) (F : Nat) :
    ∃ w', (Instr.mapUpdate 98 (.map (some b)) (.int .i64 m) (.func (.func F) #[] #[])).run Try.prog w = .ok () w' ∧ MapF w' b (n + 1) (fun k => if k = m then (F : Int) else f k) ∧ w.grownBy w' (some b) := by
  obtain ⟨D, h1, h2⟩ := h
  obtain ⟨w', hrun, hown, hg⟩ := h1.update keyedInt Try.underlying98 (by unfold maxLen; omega) (keyI hm) (funE_fn F)
  refine ⟨w', hrun, ⟨_, hown, fun k hk => ?_⟩, hg⟩
  by_cases e : k = m
  · subst e
    rw [Maps.atKey_put_same h1.isMap (keyedInt.key (keyI hk))]; simp
  · rw [Maps.atKey_put_other (by simpa using e), h2 k hk]; simp [e]
set_option maxHeartbeats 1000000 in
theorem conditions_any (w : World) : Calls Try.prog 79 #[] w fun e w' => ∃ f, e = .returned (.map (some w.heap.size)) ∧ MapF w' w.heap.size 8 f ∧ (∀ m : Nat, m < 8 → f m = condF m) ∧ Below w.heap.size w w' := by
  have i64k : ∀ k : Nat, k < 8 → I64 (k : Int) := fun k hk => by unfold I64; omega
  have h0 := MapF.made w
  have g0 : Below w.heap.size w (w.alloc (.map #[] 0)) := by go_grown
  obtain ⟨w1, r1, h1, k1⟩ := h0.put (by decide) (m := 0) (i64k 0 (by decide)) 93
  have g1 : Below w.heap.size w w1 := g0.grown k1 g0.size (fun j hj => by cases hj; exact Nat.le_refl _)
  obtain ⟨w2, r2, h2, k2⟩ := h1.put (by decide) (m := 1) (i64k 1 (by decide)) 94
  have g2 : Below w.heap.size w w2 := g1.grown k2 g1.size (fun j hj => by cases hj; exact Nat.le_refl _)
  obtain ⟨w3, r3, h3, k3⟩ := h2.put (by decide) (m := 2) (i64k 2 (by decide)) 95
  have g3 : Below w.heap.size w w3 := g2.grown k3 g2.size (fun j hj => by cases hj; exact Nat.le_refl _)
  obtain ⟨w4, r4, h4, k4⟩ := h3.put (by decide) (m := 3) (i64k 3 (by decide)) 96
  have g4 : Below w.heap.size w w4 := g3.grown k4 g3.size (fun j hj => by cases hj; exact Nat.le_refl _)
  obtain ⟨w5, r5, h5, k5⟩ := h4.put (by decide) (m := 4) (i64k 4 (by decide)) 97
  have g5 : Below w.heap.size w w5 := g4.grown k5 g4.size (fun j hj => by cases hj; exact Nat.le_refl _)
  obtain ⟨w6, r6, h6, k6⟩ := h5.put (by decide) (m := 5) (i64k 5 (by decide)) 98
  have g6 : Below w.heap.size w w6 := g5.grown k6 g5.size (fun j hj => by cases hj; exact Nat.le_refl _)
  obtain ⟨w7, r7, h7, k7⟩ := h6.put (by decide) (m := 6) (i64k 6 (by decide)) 99
  have g7 : Below w.heap.size w w7 := g6.grown k7 g6.size (fun j hj => by cases hj; exact Nat.le_refl _)
  obtain ⟨w8, r8, h8, k8⟩ := h7.put (by decide) (m := 7) (i64k 7 (by decide)) 100
  have g8 : Below w.heap.size w w8 := g7.grown k8 g7.size (fun j hj => by cases hj; exact Nat.le_refl _)
  have H8 := Lib.hid h8
  have G8 := Lib.hid g8
  clear h0 g0 h1 g1 h2 g2 h3 g3 h4 g4 h5 g5 h6 g6 h7 g7 h8 g8 k1 k2 k3 k4 k5 k6 k7 k8 i64k
  have hmm := @run_makeMap Try.prog
  go_enter Try.func79, Try.ntmps79
  go_wp2_with fail
  go_ret
  refine ⟨_, rfl, H8.out, fun m hm => ?_, G8.out⟩
  match m, hm with
  | 0, _ => rfl
  | 1, _ => rfl
  | 2, _ => rfl
  | 3, _ => rfl
  | 4, _ => rfl
  | 5, _ => rfl
  | 6, _ => rfl
  | 7, _ => rfl
set_option maxHeartbeats 2000000 in
theorem l16Turns_any (m r c : Nat) (w : World) (hm : m < 8) (hr : r ≤ 41) (hc : c ≤ 41) : Calls Try.prog 89 #[.int .i64 m, .int .i64 r, .int .i64 c] w fun e w' => e = .returned (.bool (turnB m r c)) ∧ w = w' := by
  obtain rfl | rfl | rfl | rfl | rfl | rfl | rfl | rfl : m = 0 ∨ m = 1 ∨ m = 2 ∨ m = 3 ∨ m = 4 ∨ m = 5 ∨ m = 6 ∨ m = 7 := by omega
  · skip
    go_enter Try.func89, Try.ntmps89
    go_wp2_with fail
    go_ret
    exact ⟨ret_bool (by rw [Bool.eq_iff_iff]; simp [turnB]; omega), rfl⟩
  · skip
    go_enter Try.func89, Try.ntmps89
    go_wp2_with fail
    go_ret
    exact ⟨ret_bool (by rw [Bool.eq_iff_iff]; simp [turnB]; omega), rfl⟩
  · skip
    go_enter Try.func89, Try.ntmps89
    go_wp2_with fail
    go_ret
    exact ⟨ret_bool (by rw [Bool.eq_iff_iff]; simp [turnB]; omega), rfl⟩
  · skip
    go_enter Try.func89, Try.ntmps89
    go_wp2_with fail
    go_ret
    exact ⟨ret_bool (by rw [Bool.eq_iff_iff]; simp [turnB]; omega), rfl⟩
  · skip
    go_enter Try.func89, Try.ntmps89
    go_wp2_with fail
    go_ret
    exact ⟨ret_bool (by rw [Bool.eq_iff_iff]; simp [turnB]; omega), rfl⟩
  · skip
    obtain ⟨hp, hpb⟩ := mul_nn hr hc
    generalize hP : r * c = P at hp hpb
    go_enter Try.func89, Try.ntmps89
    go_wp2_with fail
    go_ret
    exact ⟨ret_bool (by rw [Bool.eq_iff_iff]; simp [turnB, hP]; omega), rfl⟩
  · skip
    go_enter Try.func89, Try.ntmps89
    go_wp2_with fail
    go_ret
    exact ⟨ret_bool (by rw [Bool.eq_iff_iff]; simp [turnB]; omega), rfl⟩
  · skip
    obtain ⟨hp, hpb⟩ := mul_nn hr hr
    generalize hP : r * r = P at hp hpb
    go_enter Try.func89, Try.ntmps89
    go_wp2_with fail
    go_ret
    exact ⟨ret_bool (by rw [Bool.eq_iff_iff]; simp [turnB, hP]; omega), rfl⟩
end Go.Proofs.Yteghpageamehkaa
