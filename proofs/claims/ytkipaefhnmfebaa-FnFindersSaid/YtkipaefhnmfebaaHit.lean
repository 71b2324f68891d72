/-
  Contracts of chapter 17: hits in a row of cells.
-/
import Derived.Test.YtkipaefhnmfebaaDrB
namespace Go.Proofs.Ytkipaefhnmfebaa
set_option linter.unusedSimpArgs false
open Go.RowKit
/-- All blocks stay as they are, but for the source's and one row's. -/
structure HitP (s : SP) (g B0 : Nat) (w w' : World) : Prop where
  bx : BX s B0 w w'
  blk : ∀ k, k < w.heap.size → k ≠ s.b → k ≠ g → w'.heap[k]? = w.heap[k]?
theorem HitP.of {s : SP} {g B0 : Nat} {w w' : World} (h : BX s w.heap.size w w') (hB : B0 ≤ w.heap.size) : HitP s g B0 w w' := ⟨h.mono hB, fun k hk hn _ => h.block k hk hn⟩
theorem HitP.then {s : SP} {g B0 : Nat} {w w' w'' : World} (h : HitP s g B0 w w') (k : BX s w'.heap.size w' w'') (hB : B0 ≤ w'.heap.size) : HitP s g B0 w w'' :=
  ⟨h.bx.trans (k.mono hB), fun i hi hn hg => (k.block i (by have := h.bx.size; omega) hn).trans (h.blk i hi hn hg)⟩
theorem HitP.set {s : SP} {g B0 : Nat} {w w' : World} (h : HitP s g B0 w w') (k : Nat) (v : Value) (hB : B0 ≤ g) (hb : s.b < g) : HitP s g B0 w (w'.setCell ⟨g, k, none⟩ v) :=
  ⟨h.bx.setCell (p := ⟨g, k, none⟩) hB hb v, fun i hi hn hg => blk_other (h.blk i hi hn hg) hg⟩
set_option maxHeartbeats 2000000 in
theorem l17Hit_any (b : Nat) (A : Option Addr) (n c : Nat) (bs : List Int) (B : Nat) (g cap N B0 : Nat) (ys : List Int) (w : World) (hI : (srcP 97 b A n c bs B).I w)
    (ho : Own w B0 (.slice (some ⟨g, 0, none⟩) N cap) ys) (hl : ys.length = N) (hN : 1 ≤ N ∧ N ≤ 1000000) (hb : b < B0) (hB0 : B0 ≤ w.heap.size) (hg : B0 ≤ g) :
    Calls Try.prog 69 #[.pointer (some ⟨b, 0, none⟩), .slice (some ⟨g, 0, none⟩) N cap, .int .i64 12] w fun e w' =>
      e = .returned (.tuple #[]) ∧ (∃ zs : List Int, zs.length = N ∧ Own w' B0 (.slice (some ⟨g, 0, none⟩) N cap) zs) ∧ HitP (srcP 97 b A n c bs B) g B0 w w' := by
  have HI := Lib.hid hI
  have HO := Lib.hid ho
  have HL := Lib.hid hl
  clear hI ho hl
  go_enter Try.func69, Try.ntmps69
  go_wp2_with fail
  (go_at_call 62; with_reducible refine (draw_any b A n c bs B 13 _ HI.out (by omega)).mono ?_; rintro e1 w1 ⟨u1, rfl, ⟨r1, rfl, hr1a, hr1b⟩, hb1⟩)
  have HB1 : Hid (HitP (srcP 97 b A n c bs B) g B0 w w1) := Lib.hid (HitP.of hb1 hB0)
  have HO1 := Lib.hid (HO.out.bx hb1 hb)
  have hs1 := hb1.size
  obtain ⟨M, rfl⟩ := Int.eq_ofNat_of_zero_le hr1a
  have hM : M ≤ 12 := by omega
  clear hb1
  go_wp2_with fail
  go_loopw [6] (fun q wr => ∃ m : Nat, m ≤ 12 ∧ q = .int .i64 m ∧ Hid (∃ zs : List Int, zs.length = N ∧ Own wr B0 (.slice (some ⟨g, 0, none⟩) N cap) zs) ∧ Hid (HitP (srcP 97 b A n c bs B) g B0 w wr)) (fun q _ => (intOf q).toNat)
  case atStart => exact ⟨M, hM, rfl, Lib.hid ⟨ys, HL.out, HO1.out⟩, HB1⟩
  case round =>
    obtain ⟨m, hm, rfl, hown, hbx⟩ := hrel
    obtain ⟨zs, hzl, hoz⟩ := hown.out
    have HOZ := Lib.hid hoz
    have HZL := Lib.hid hzl
    clear hown hoz hzl
    have hsr := hbx.out.bx.size
    have HIR := Lib.hid (hbx.out.bx.inv HI.out)
    have hNl : (0 : Int) < (N : Int) := by omega
    rcases m with _ | m
    · go_wp2_with fail
      first | go_ret | go_returns
      exact ⟨rfl, ⟨zs, HZL.out, HOZ.out⟩, hbx.out⟩
    · go_wp2_with fail
      (go_at_call 62; with_reducible refine (draw_any b A n c bs B (N : Int) _ HIR.out (by omega)).mono ?_; rintro e2 w2 ⟨u2, rfl, ⟨r2, rfl, hr2a, hr2b⟩, hb2⟩)
      have HB2 : Hid (HitP (srcP 97 b A n c bs B) g B0 w w2) := Lib.hid (hbx.out.then hb2 (by omega))
      have HO2 := Lib.hid (HOZ.out.bx hb2 hb)
      have HI2 := Lib.hid (hb2.inv HIR.out)
      have hs2 := hb2.size
      obtain ⟨T, rfl⟩ := Int.eq_ofNat_of_zero_le hr2a
      have hT : T < N := by omega
      clear hb2
      go_wp2_with fail
      (go_at_call 62; with_reducible refine (draw_any b A n c bs B 3 _ HI2.out (by omega)).mono ?_; rintro e3 w3 ⟨u3, rfl, ⟨r3, rfl, hr3a, hr3b⟩, hb3⟩)
      have HB3 : Hid (HitP (srcP 97 b A n c bs B) g B0 w w3) := Lib.hid (HB2.out.then hb3 (by omega))
      have HO3 := Lib.hid (HO2.out.bx hb3 hb)
      have hs3 := hb3.size
      clear hb3
      obtain ⟨g', c', e', -, -, hcc, hff⟩ := HO3.out.row (by rw [HZL.out]; omega)
      simp only [Value.slice.injEq, Option.some.injEq, Addr.mk.injEq, and_true] at e'
      obtain ⟨rfl, -, rfl⟩ := e'
      have hck := hcc T (by rw [HZL.out]; exact hT)
      have hfk := hff T
      clear hcc hff
      go_wp2_with fail
      go_roundw
      case rel => exact ⟨m, by omega, by go_num, Lib.hid ⟨zs.set T (r3 - 1), by rw [List.length_set]; exact HZL.out, Own.setn HZL.out HO3.out⟩, Lib.hid (HB3.out.set T _ hg (show b < g by omega))⟩
      case measure => simp [intOf]
end Go.Proofs.Ytkipaefhnmfebaa
