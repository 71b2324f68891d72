/-
  Contracts of chapter 2: the tables of a field.
-/
import Derived.Test.YtbgcbjfimjfbpaaC02
import Derived.Test.YtbgcbjfimjfbpaaArgG
import Derived.Test.YtbgcbjfimjfbpaaBlk
namespace Go.Proofs.Ytbgcbjfimjfbpaa
set_option linter.unusedSimpArgs false
open Go.RowKit

/-- Block g holds the arithmetic of a field of S elements. -/
def CalcAt (w : World) (g S : Nat) (b : Bool) : Prop := ∃ CS : Array Value, w.heap[g]? = some (.cells CS 115 (0, 0)) ∧ CS.size = 2044 ∧ CS[0]? = some (.bool b) ∧ CS[1]? = some (.int .i64 S)
theorem CalcAt.lt {w : World} {g S : Nat} {b : Bool} (h : CalcAt w g S b) : g < w.heap.size := by obtain ⟨CS, h1, -⟩ := h; exact lt_of_block h1
theorem CalcAt.c0 {w : World} {g S : Nat} {b : Bool} (h : CalcAt w g S b) : w.cell? ⟨g, 0, none⟩ = some (.bool b) := by obtain ⟨CS, h1, -, h2, -⟩ := h; simpa [World.cell?, h1] using h2
theorem CalcAt.c1 {w : World} {g S : Nat} {b : Bool} (h : CalcAt w g S b) : w.cell? ⟨g, 1, none⟩ = some (.int .i64 S) := by obtain ⟨CS, h1, -, -, h2⟩ := h; simpa [World.cell?, h1] using h2
theorem CalcAt.room {w : World} {g S : Nat} {b : Bool} (h : CalcAt w g S b) {k : Nat} (hk : k < 2044) : ∃ v, w.cell? ⟨g, k, none⟩ = some v := by
  obtain ⟨CS, h1, h2, -⟩ := h
  exact ⟨CS[k]'(by omega), by simp [World.cell?, h1, h2, hk]⟩
theorem CalcAt.free {w : World} {g S : Nat} {b : Bool} (h : CalcAt w g S b) (k : Nat) : w.frozen? ⟨g, k, none⟩ = false := by obtain ⟨CS, h1, -⟩ := h; simp [World.frozen?, h1]
theorem CalcAt.set {w : World} {g S : Nat} {b : Bool} (h : CalcAt w g S b) {k : Nat} (hk : 2 ≤ k) (u : Value) : CalcAt (w.setCell ⟨g, k, none⟩ u) g S b := by
  obtain ⟨CS, h1, h2, h3, h4⟩ := h
  refine ⟨CS.setIfInBounds k u, blk3_set h1, by simpa using h2, ?_, ?_⟩
  · rw [Array.getElem?_setIfInBounds_ne (by omega)]; exact h3
  · rw [Array.getElem?_setIfInBounds_ne (by omega)]; exact h4
theorem CalcAt.below {w w' : World} {g S B : Nat} {b : Bool} (h : CalcAt w g S b) (hb : Below B w w') (hB : g < B) : CalcAt w' g S b := by
  obtain ⟨CS, h1, h2⟩ := h
  exact ⟨CS, blk_below h1 hb hB, h2⟩
theorem grown_below' {a w w' : World} {r : Option Nat} (h : a.grownBy w r) (hb : Below w.heap.size w w') : a.grownBy w' r :=
  ⟨hb.os.trans h.os, hb.tape.trans h.tape, hb.output.trans h.output, Nat.le_trans h.size hb.size, fun j hj hne => (hb.block j (Nat.lt_of_lt_of_le hj h.size)).trans (h.block j hj hne)⟩
set_option maxRecDepth 50000 in
set_option maxHeartbeats 4000000 in
theorem fill_any (T : Nat → Nat) (S g : Nat) (b : Bool) (fn : FuncId) (c1 c2 : Value) (w : World) (hEN : ∀ (args : Array Value) (w : World), (callFunc fn args).run Try.prog w = .ok (.enter fn args) w)
    (hC : CalcAt w g S b) (hS : 3 ≤ S) (hS2 : S ≤ 1021) (hpw : ∀ n, pw T n < S)
    (HT : ∀ (x : Nat) (w' : World), x < S → CalcAt w' g S b → w.grownBy w' (some g) → Calls Try.prog fn #[.int .i64 x, c1, c2] w' fun e w'' => e = .returned (.int .i64 (T x : Nat)) ∧ Below w'.heap.size w' w'') :
    Calls Try.prog 100 #[.pointer (some ⟨g, 0, none⟩), .func (.func fn) #[] #[c1, c2]] w fun e w' => e = .returned (.bool (fullB T S)) ∧ CalcAt w' g S b ∧ w.grownBy w' (some g) := by
  have HC := Lib.hid hC
  have HHT := Lib.hid HT
  have HPW := Lib.hid hpw
  have HEN := Lib.hid hEN
  clear hC HT hpw hEN
  go_enter Try.func100, Try.ntmps100
  go_wp2_with fail
  go_loopw [5, 6] (fun q i wr => ∃ n : Nat, n ≤ S - 1 ∧ i = .int .i64 n ∧ q = .int .i64 (pw T n : Nat) ∧ Hid (openB T n) ∧ Hid (CalcAt wr g S b) ∧ Hid (w.grownBy wr (some g)))
    (fun _ i _ => S - (intOf i).toNat)
  case atStart => exact ⟨0, Nat.zero_le _, rfl, rfl, Lib.hid (fun i h1 h2 => by omega), HC, Lib.hid (World.grownBy.refl _ _)⟩
  case round =>
    rename World => wo
    obtain ⟨n, hn, rfl, rfl, ho, hc, hg⟩ := hrel
    have hgo := hc.out.lt
    have hc1 := hc.out.c1
    have hS1 : IntKind.i64.wrap ((S : Int) - 1) = ((S - 1 : Nat) : Int) := by rw [wr64 (by omega)]; omega
    obtain ⟨X, hX⟩ : ∃ X, pw T n = X := ⟨_, rfl⟩
    have hXS := HPW.out n
    rw [hX] at hXS
    have HX := Lib.hid hX
    rw [hX]
    clear hX
    have hfa1 : ∀ w, (Instr.fieldAt 115 (.pointer (some ⟨g, 0, none⟩)) 1).run Try.prog w = .ok (.pointer (some ⟨g, 1, none⟩)) w := fun _ => by kernel_rfl
    have hfa2 : ∀ w, (Instr.fieldAt 115 (.pointer (some ⟨g, 0, none⟩)) 2).run Try.prog w = .ok (.pointer (some ⟨g, 2, none⟩)) w := fun _ => by kernel_rfl
    have hfa3 : ∀ w, (Instr.fieldAt 115 (.pointer (some ⟨g, 0, none⟩)) 3).run Try.prog w = .ok (.pointer (some ⟨g, 1023, none⟩)) w := fun _ => by kernel_rfl
    by_cases hlt : n < S - 1
    · have hlti : (n : Int) < ((S - 1 : Nat) : Int) := by omega
      by_cases hn0 : n = 0
      · subst hn0
        have hX1 : X = 1 := HX.out.symm
        subst hX1
        have hfz := hc.out.free
        have hEN := HEN.out
        obtain ⟨r1, hr1⟩ := hc.out.room (k := 2) (by omega)
        obtain ⟨r2, hr2⟩ := hc.out.room (k := 1024) (by omega)
        have hcc := Lib.hid ((hc.out.set (k := 2) (by omega) (.int .i64 ((1 : Nat) : Int))).set (k := 1024) (by omega) (.int .i64 ((0 : Nat) : Int)))
        have hgg := Lib.hid (grown_set (k := 1024) (grown_set (k := 2) hg.out (.int .i64 ((1 : Nat) : Int))) (.int .i64 ((0 : Nat) : Int)))
        go_wp2_with fail
        refine (HHT.out 1 _ hXS hcc.out hgg.out).mono ?_
        rintro e1 w1 ⟨rfl, hb1⟩
        have hc2 := Lib.hid (hcc.out.below hb1 hcc.out.lt)
        have hg2 := Lib.hid (grown_below' hgg.out hb1)
        clear hr1 hr2 hfz hEN
        go_wp2_with fail
        go_roundw
        case rel => exact ⟨0 + 1, by omega, by go_num, by rw [show pw T (0 + 1) = T (pw T 0) from rfl, HX.out], Lib.hid (openB_one T), hc2, hg2⟩
        case measure => simp [intOf]; omega
      · have hn1 : 1 ≤ n := by omega
        by_cases hX0 : X = 0
        · have hfl := Lib.hid (fullB_hit (s := S) hn1 (by omega) (.inl (by rw [HX.out]; exact hX0)))
          go_wp2_with fail
          go_ret
          exact ⟨ret_bool (by rw [hfl.out]), hc.out, hg.out⟩
        · by_cases hX1 : X = 1
          · have hfl := Lib.hid (fullB_hit (s := S) hn1 (by omega) (.inr (by rw [HX.out]; exact hX1)))
            go_wp2_with fail
            go_ret
            exact ⟨ret_bool (by rw [hfl.out]), hc.out, hg.out⟩
          · have hfz := hc.out.free
            have hEN := HEN.out
            obtain ⟨r1, hr1⟩ := hc.out.room (k := 2 + n) (by omega)
            obtain ⟨r2, hr2⟩ := hc.out.room (k := 1023 + X) (by omega)
            have hcc := Lib.hid ((hc.out.set (k := 2 + n) (by omega) (.int .i64 ((X : Nat) : Int))).set (k := 1023 + X) (by omega) (.int .i64 ((n : Nat) : Int)))
            have hgg := Lib.hid (grown_set (k := 1023 + X) (grown_set (k := 2 + n) hg.out (.int .i64 ((X : Nat) : Int))) (.int .i64 ((n : Nat) : Int)))
            go_wp2_with fail
            refine (HHT.out X _ hXS hcc.out hgg.out).mono ?_
            rintro e1 w1 ⟨rfl, hb1⟩
            have hc2 := Lib.hid (hcc.out.below hb1 hcc.out.lt)
            have hg2 := Lib.hid (grown_below' hgg.out hb1)
            clear hr1 hr2 hfz hEN
            go_wp2_with fail
            go_roundw
            case rel => exact ⟨n + 1, by omega, by go_num, by rw [show pw T (n + 1) = T (pw T n) from rfl, HX.out], Lib.hid (openB_succ ho.out (by rw [HX.out]; exact hX0) (by rw [HX.out]; exact hX1)), hc2, hg2⟩
            case measure => simp [intOf]; omega
    · have hnS : n = S - 1 := by omega
      subst hnS
      have hfl := fullB_end ho.out
      rw [HX.out] at hfl
      have HF := Lib.hid hfl
      clear hfl
      by_cases hX1 : X = 1
      · go_wp2_with fail
        go_ret
        exact ⟨ret_bool (by rw [HF.out, hX1]; rfl), hc.out, hg.out⟩
      · go_wp2_with fail
        go_ret
        exact ⟨ret_bool (by rw [HF.out, beq_eq_false_iff_ne.2 hX1]; simp; omega), hc.out, hg.out⟩
end Go.Proofs.Ytbgcbjfimjfbpaa
