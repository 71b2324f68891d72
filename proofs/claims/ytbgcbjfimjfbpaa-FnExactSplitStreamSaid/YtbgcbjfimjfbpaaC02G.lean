/-
  Contracts of chapter 2: the arithmetic of a field.
-/
import Derived.Test.YtbgcbjfimjfbpaaC02F
import Derived.Test.YtbgcbjfimjfbpaaBits
namespace Go.Proofs.Ytbgcbjfimjfbpaa
set_option linter.unusedSimpArgs false
open Go.RowKit

theorem zc_size : Try.zeroCells115.size = 2044 := by kernel_rfl
theorem zc_0 : Try.zeroCells115[0]? = some (.bool false) := by kernel_rfl
theorem calc_at1 (w : World) (S : Nat) : CalcAt (w.alloc (.cells (Try.zeroCells115.setIfInBounds 1 (.int .i64 S)) 115)) w.heap.size S false := by
  refine ⟨_, heap_alloc_new _ _, by simp [zc_size], ?_, ?_⟩
  · rw [Array.getElem?_setIfInBounds_ne (by omega)]; exact zc_0
  · rw [Array.getElem?_setIfInBounds_self_of_lt (by rw [zc_size]; omega)]
theorem calc_at2 (w : World) (S : Nat) : CalcAt (w.alloc (.cells ((Try.zeroCells115.setIfInBounds 0 (.bool true)).setIfInBounds 1 (.int .i64 S)) 115)) w.heap.size S true := by
  refine ⟨_, heap_alloc_new _ _, by simp [zc_size], ?_, ?_⟩
  · rw [Array.getElem?_setIfInBounds_ne (by omega), Array.getElem?_setIfInBounds_self_of_lt (by rw [zc_size]; omega)]
  · rw [Array.getElem?_setIfInBounds_self_of_lt (by simp [zc_size])]
theorem grown_cell {w w' : World} {g b k : Nat} (hg : w.grownBy w' (some g)) (hb : b < w.heap.size) (hne : b ≠ g) : w'.cell? ⟨b, k, none⟩ = w.cell? ⟨b, k, none⟩ := by
  have := hg.block b hb (by simp; omega)
  simp [World.cell?, this]
theorem primeT_any (x G P bG bP : Nat) (w : World) (h1 : w.cell? ⟨bG, 0, none⟩ = some (.int .i64 G)) (h2 : w.cell? ⟨bP, 0, none⟩ = some (.int .i64 P)) (hx : x ≤ 1021) (hG : G ≤ 1021) (hP : 2 ≤ P) (hP2 : P ≤ 1021) :
    Calls Try.prog 112 #[.int .i64 x, .pointer (some ⟨bG, 0, none⟩), .pointer (some ⟨bP, 0, none⟩)] w fun e w' => e = .returned (.int .i64 (mulT P G x : Nat)) ∧ Below w.heap.size w w' := by
  have hm : IntKind.i64.wrap ((x : Int) * G) = ((x * G : Nat) : Int) := by
    have := Nat.mul_le_mul hx hG
    rw [← Int.natCast_mul]; exact wr64 (by omega)
  have hr : ((x * G : Nat) : Int) % (P : Int) = ((mulT P G x : Nat) : Int) := by unfold mulT; rw [← Int.natCast_emod]
  have hr2 : ((x * G : Nat) : Int).tmod (P : Int) = ((mulT P G x : Nat) : Int) := by rw [Int.tmod_eq_emod_of_nonneg (by omega), hr]
  generalize mulT P G x = M at hr hr2 ⊢
  generalize x * G = E at hm hr hr2
  have hP0 : ¬ P = 0 := by omega
  go_enter Try.func112, Try.ntmps112
  go_wp2_with fail
  go_ret
  exact ⟨rfl, by (repeat (first | (with_reducible assumption) | (with_reducible exact Below.refl _ _) | (with_reducible refine below_drewN' ?_ _) | (with_reducible refine Below.drew ?_) | ((with_reducible refine Below.alloc ?_ ?_ _); rotate_left; focus (first | (simp; done) | (simp; omega) | omega)) | ((with_reducible refine Below.setCell ?_ ?_ _); rotate_left; focus (first | (simp; done) | (simp; omega) | omega))))⟩
set_option maxRecDepth 50000 in
set_option maxHeartbeats 4000000 in
theorem primePowers_any (P G : Nat) (w : World) (hP : 3 ≤ P) (hP2 : P ≤ 1021) (hG : G ≤ 1021) :
    Calls Try.prog 96 #[.int .i64 P, .int .i64 G] w fun e w' => ∃ g, e = .returned (.tuple #[.pointer (some ⟨g, 0, none⟩), .bool (fullB (mulT P G) P)]) ∧ w.heap.size ≤ g ∧ CalcAt w' g P false ∧ Below w.heap.size w w' := by
  have hEN : Hid (∀ (args : Array Value) (w : World), (callFunc 112 args).run Try.prog w = .ok (.enter 112 args) w) := Lib.hid (fun _ _ => by kernel_rfl)
  have hmf : ∀ (fn : Fn) (first cap : Array Value) (w : World), (Instr.makeFunc fn first cap).run Try.prog w = .ok (.func fn first cap) w := fun _ _ _ _ => rfl
  have HL := Lib.hid (mulT_lt (p := P) (g := G) (by omega))
  have hca := calc_at1 ((w.alloc (.cells #[.int .i64 P] 2)).alloc (.cells #[.int .i64 G] 2)) P
  generalize hZ : Try.zeroCells115.setIfInBounds 1 (.int .i64 P) = CS at hca
  simp only [World.size_alloc] at hca
  have HCA := Lib.hid hca
  have HZ := Lib.hid hZ
  have hcG : (((w.alloc (.cells #[.int .i64 P] 2)).alloc (.cells #[.int .i64 G] 2)).alloc (.cells CS 115)).cell? ⟨w.heap.size + 1, 0, none⟩ = some (.int .i64 G) := by go_simp
  have hcP : (((w.alloc (.cells #[.int .i64 P] 2)).alloc (.cells #[.int .i64 G] 2)).alloc (.cells CS 115)).cell? ⟨w.heap.size, 0, none⟩ = some (.int .i64 P) := by go_simp
  obtain ⟨W, hW⟩ : ∃ W, ((w.alloc (.cells #[.int .i64 P] 2)).alloc (.cells #[.int .i64 G] 2)).alloc (.cells CS 115) = W := ⟨_, rfl⟩
  rw [hW] at hcG hcP
  have hsW : W.heap.size = w.heap.size + 1 + 1 + 1 := by rw [← hW]; simp
  have HBW : Hid (Below w.heap.size w W) := Lib.hid (by rw [← hW]; go_grown)
  rw [hW] at HCA
  have HCG := Lib.hid hcG
  have HCP := Lib.hid hcP
  have HW := Lib.hid hW
  clear hca hcG hcP hW
  go_enter Try.func96, Try.ntmps96
  go_wp2_with fail
  rw [HW.out]
  go_at_call 100
  refine (fill_any (mulT P G) P (w.heap.size + 1 + 1) false 112 _ _ W hEN.out HCA.out hP hP2 HL.out ?_).mono ?_
  · intro x w' hx hc hg
    exact primeT_any x G P _ _ w' ((grown_cell hg (by omega) (by omega)).trans HCG.out) ((grown_cell hg (by omega) (by omega)).trans HCP.out) (by omega) hG (by omega) hP2
  rintro e1 w1 ⟨rfl, hc1, hg1⟩
  have HC1 := Lib.hid hc1
  have HB1 := Lib.hid (HBW.out.grown hg1 (by omega) (fun k hk => by simp at hk; omega))
  clear hc1 hg1 hZ
  go_wp2_with fail
  first | go_returns | go_ret
  exact ⟨_, rfl, by omega, HC1.out, HB1.out⟩
end Go.Proofs.Ytbgcbjfimjfbpaa
