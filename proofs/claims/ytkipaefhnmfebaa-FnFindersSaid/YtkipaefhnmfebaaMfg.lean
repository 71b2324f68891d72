/-
  The row FnFinders: printed codes show their finders; no condition. Printed by gen/lfd.py.
-/
import Derived.Test.YtkipaefhnmfebaaMff
import Derived.Test.YtkipaefhnmfebaaC14
import Derived.Test.YtkipaefhnmfebaaMfb
import Derived.Test.YtkipaefhnmfebaaGrd
import Derived.Test.YtkipaefhnmfebaaMfc
import Derived.Test.YtkipaefhnmfebaaC21V
import Derived.Test.YtkipaefhnmfebaaC14I
import Derived.Test.YtkipaefhnmfebaaC14T
import Derived.Test.YtkipaefhnmfebaaArgB
import Derived.Test.YtkipaefhnmfebaaDice
import Derived.Deep.RegionHeld3
import Derived.Deep.RegionLaw
import Derived.Deep.AppendLies
namespace Go.Proofs.Ytkipaefhnmfebaa
set_option linter.unusedSimpArgs false
open Go.RowKit Go.Deep

theorem OwnF.nil {w : World} {B : Nat} : OwnF w B (.slice none 0 0) [] := World.ownsRow_nil _ _ _ _
def fdsL (r c : Int) (xs : List Int) : List FdT := fnS (cdN xs r.toNat c.toNat r.toNat)
def fdCode (r c : Int) (xs : List Int) : Int := if gridB r c xs then (if (fdsL r c xs).length ≤ 60 then 0 else 3) else 1
def fdRes (r c : Int) (xs : List Int) : List FdT := if fdCode r c xs = 0 then fdsL r c xs else []
theorem fd_bad {r c : Int} {xs : List Int} (h : gridB r c xs = false) : fdCode r c xs = 1 ∧ fdRes r c xs = [] := by
  have e : fdCode r c xs = 1 := by unfold fdCode; rw [h]; rfl
  exact ⟨e, by unfold fdRes; rw [e]; rfl⟩
theorem fd_good {r c : Int} {xs : List Int} (h : gridB r c xs = true) (h2 : (fdsL r c xs).length ≤ 60) : fdCode r c xs = 0 ∧ fdRes r c xs = fdsL r c xs := by
  have e : fdCode r c xs = 0 := by unfold fdCode; rw [h, if_pos rfl, if_pos h2]
  exact ⟨e, by unfold fdRes; rw [e, if_pos rfl]⟩
theorem fd_many {r c : Int} {xs : List Int} (h : gridB r c xs = true) (h2 : 60 < (fdsL r c xs).length) : fdCode r c xs = 3 ∧ fdRes r c xs = [] := by
  have e : fdCode r c xs = 3 := by unfold fdCode; rw [h, if_pos rfl, if_neg (by omega)]
  exact ⟨e, by unfold fdRes; rw [e]; rfl⟩
theorem grid_nat {r c : Int} {n : Nat} {xs : List Int} (h : gridB r c xs = true) (hl : xs.length = n) : ∃ R C : Nat, r = (R : Nat) ∧ c = (C : Nat) ∧ n = R * C ∧ n ≤ 40000 ∧ R ≤ 40000 ∧ 1 ≤ C ∧ C ≤ 40000 := by
  obtain ⟨h1, h2, h3, h4, -⟩ := gridB_true h
  obtain ⟨R, rfl⟩ := Int.eq_ofNat_of_zero_le (show 0 ≤ r by omega)
  obtain ⟨C, rfl⟩ := Int.eq_ofNat_of_zero_le (show 0 ≤ c by omega)
  refine ⟨R, C, rfl, rfl, ?_, ?_, by omega, by omega, by omega⟩
  · have e : ((R : Int) * (C : Int)) = ((R * C : Nat) : Int) := by simp
    rw [e] at h4; omega
  · omega
set_option maxRecDepth 100000 in
set_option maxHeartbeats 4000000 in
theorem FindersOf_any (r c : Int) (A : Option Addr) (n cp : Nat) (xs : List Int) (w : World) (hr : RI w w.heap.size A n xs) (hn : n ≤ 1000000000000) (hcp : n ≤ cp ∧ cp ≤ 9223372036854775807) :
    Calls Try.prog 20 #[.agg #[.int .i64 r, .int .i64 c, .slice A n cp]] w fun e w' => ∃ v, e = .returned (.tuple #[v, .int .i64 (fdCode r c xs)]) ∧ OwnF w' w.heap.size v (fdRes r c xs) ∧ Below w.heap.size w w' := by
  have HIG := Lib.hid (IsGrid_any r c A n cp xs (w.alloc (.cells #[.int .i64 r, .int .i64 c, .slice A n cp] 41)) w.heap.size (hr.below (by go_grown)) (by simp) (by omega))
  have hl := hr.len
  cases hg : gridB r c xs with
  | false =>
    rw [hg] at HIG
    obtain ⟨e1, e2⟩ := fd_bad hg
    rw [e1, e2]
    clear hr hg e1 e2 hl
    go_enter Try.func20, Try.ntmps20
    go_wp2_with (go_at_call 45; with_reducible refine HIG.out.mono ?_; rintro e1 w1 ⟨rfl, hb1⟩)
    go_returns
    exact ⟨_, rfl, OwnF.nil, below_then (by go_grown) (by simp) hb1⟩
  | true =>
    rw [hg] at HIG
    obtain ⟨R, C, rfl, rfl, hnr, hnb, hR, hC1, hC2⟩ := grid_nat hg hl
    have HFD := Lib.hid (fun (w' : World) (hb : Below w.heap.size w w') => finders_any R C A n cp xs w' ((hr.below hb).more hb.size) hnr hcp hnb hR ⟨hC1, hC2⟩)
    have HL : Hid (fdsL (R : Nat) (C : Nat) xs = fnS (cdN xs R C R)) := Lib.hid (by unfold fdsL; simp)
    have HG := Lib.hid (fun h => fd_good (xs := xs) hg (by rw [HL.out]; exact h))
    have HM := Lib.hid (fun h => fd_many (xs := xs) hg (by rw [HL.out]; exact h))
    rw [HL.out] at HG
    generalize fnS (cdN xs R C R) = L at *
    rcases Nat.lt_or_ge 60 L.length with h60 | h60
    · obtain ⟨e1, e2⟩ := HM.out h60
      rw [e1, e2]
      have HF2 : Hid (∀ (w' : World), Below w.heap.size w w' → Calls Try.prog 46 #[.agg #[.int .i64 R, .int .i64 C, .slice A n cp]] w' fun e w'' => e = .returned (.tuple #[.slice none 0 0, .bool false]) ∧ Below w'.heap.size w' w'') := Lib.hid (fun w' hb => (HFD.out w' hb).mono (by
        rintro e w'' ⟨h | h, hb2⟩
        · omega
        · exact ⟨h.2, hb2⟩))
      clear hr hg e1 e2 hl HFD HL HG HM hnr
      go_enter Try.func20, Try.ntmps20
      go_wp2_with first | (go_at_call 45; with_reducible refine HIG.out.mono ?_; rintro e1 w1 ⟨rfl, hb1⟩; have HB1 := Lib.hid (below_then (show Below w.heap.size w (w.alloc (.cells #[.int .i64 R, .int .i64 C, .slice A n cp] 41)) by go_grown) (by simp) hb1); obtain ⟨z0, z1, z2, -⟩ := blk3 ((hb1.block w.heap.size (by simp)).trans (heap_alloc_new _ _)); clear hb1) | (go_at_call 46; with_reducible refine (HF2.out _ HB1.out).mono ?_; rintro e2 w2 ⟨rfl, hb2⟩)
      go_returns
      exact ⟨_, rfl, OwnF.nil, below_then HB1.out HB1.out.size hb2⟩
    · obtain ⟨e1, e2⟩ := HG.out h60
      rw [e1, e2]
      have HF2 : Hid (∀ (w' : World), Below w.heap.size w w' → Calls Try.prog 46 #[.agg #[.int .i64 R, .int .i64 C, .slice A n cp]] w' fun e w'' => ∃ v, e = .returned (.tuple #[v, .bool true]) ∧ OwnF w'' w'.heap.size v L ∧ Below w'.heap.size w' w'') := Lib.hid (fun w' hb => (HFD.out w' hb).mono (by
        rintro e w'' ⟨h | h, hb2⟩
        · obtain ⟨-, v, h1, h2⟩ := h
          exact ⟨v, h1, h2, hb2⟩
        · omega))
      clear hr hg e1 e2 hl HFD HL HG HM hnr
      go_enter Try.func20, Try.ntmps20
      go_wp2_with first | (go_at_call 45; with_reducible refine HIG.out.mono ?_; rintro e1 w1 ⟨rfl, hb1⟩; have HB1 := Lib.hid (below_then (show Below w.heap.size w (w.alloc (.cells #[.int .i64 R, .int .i64 C, .slice A n cp] 41)) by go_grown) (by simp) hb1); obtain ⟨z0, z1, z2, -⟩ := blk3 ((hb1.block w.heap.size (by simp)).trans (heap_alloc_new _ _)); clear hb1) | (go_at_call 46; with_reducible refine (HF2.out _ HB1.out).mono ?_; rintro e2 w2 ⟨v2, rfl, ho2, hb2⟩)
      go_returns
      exact ⟨_, rfl, ho2.more HB1.out.size, below_then HB1.out HB1.out.size hb2⟩
set_option maxRecDepth 100000 in
set_option maxHeartbeats 4000000 in
theorem sFindersOf_any (r c : Int) (A : Option Addr) (n cp : Nat) (xs : List Int) (w : World) (hr : RI w w.heap.size A n xs) (hn : n ≤ 1000000000000) (hcp : n ≤ cp ∧ cp ≤ 9223372036854775807) :
    Calls Try.prog 21 #[.agg #[.int .i64 r, .int .i64 c, .slice A n cp]] w fun e w' => ∃ v, e = .returned (.tuple #[v, .int .i64 (fdCode r c xs)]) ∧ OwnF w' w.heap.size v (fdRes r c xs) ∧ Below w.heap.size w w' := by
  have HIG := Lib.hid (sIsGrid_any r c A n cp xs (w.alloc (.cells #[.int .i64 r, .int .i64 c, .slice A n cp] 41)) w.heap.size (hr.below (by go_grown)) (by simp) (by omega))
  have hl := hr.len
  cases hg : gridB r c xs with
  | false =>
    rw [hg] at HIG
    obtain ⟨e1, e2⟩ := fd_bad hg
    rw [e1, e2]
    clear hr hg e1 e2 hl
    go_enter Try.func21, Try.ntmps21
    go_wp2_with (go_at_call 47; with_reducible refine HIG.out.mono ?_; rintro e1 w1 ⟨rfl, hb1⟩)
    go_returns
    exact ⟨_, rfl, OwnF.nil, below_then (by go_grown) (by simp) hb1⟩
  | true =>
    rw [hg] at HIG
    obtain ⟨R, C, rfl, rfl, hnr, hnb, hR, hC1, hC2⟩ := grid_nat hg hl
    have HFD := Lib.hid (fun (w' : World) (hb : Below w.heap.size w w') => l23Finders_any R C A n cp xs w' ((hr.below hb).more hb.size) hnr hcp hnb hR ⟨hC1, hC2⟩)
    have HL : Hid (fdsL (R : Nat) (C : Nat) xs = fnS (cdN xs R C R)) := Lib.hid (by unfold fdsL; simp)
    have HG := Lib.hid (fun h => fd_good (xs := xs) hg (by rw [HL.out]; exact h))
    have HM := Lib.hid (fun h => fd_many (xs := xs) hg (by rw [HL.out]; exact h))
    rw [HL.out] at HG
    generalize fnS (cdN xs R C R) = L at *
    obtain ⟨m, hm⟩ : ∃ m, L.length = m := ⟨_, rfl⟩
    rw [hm] at HG HM
    rcases Nat.lt_or_ge 60 m with h60 | h60
    · obtain ⟨e1, e2⟩ := HM.out h60
      rw [e1, e2]
      have hmi : (60 : Int) < (m : Int) := by omega
      clear hr hg e1 e2 hl HL HG HM hnr
      go_enter Try.func21, Try.ntmps21
      go_wp2_with first | (go_at_call 47; with_reducible refine HIG.out.mono ?_; rintro e1 w1 ⟨rfl, hb1⟩; have HB1 := Lib.hid (below_then (show Below w.heap.size w (w.alloc (.cells #[.int .i64 R, .int .i64 C, .slice A n cp] 41)) by go_grown) (by simp) hb1); obtain ⟨z0, z1, z2, -⟩ := blk3 ((hb1.block w.heap.size (by simp)).trans (heap_alloc_new _ _)); clear hb1) | (go_at_call 48; with_reducible refine (HFD.out _ HB1.out).mono ?_; rintro e2 w2 ⟨v2, rfl, ho2, hb2⟩; obtain ⟨A2, c2, rfl⟩ := ho2.shape; rw [hm])
      go_returns
      exact ⟨_, rfl, OwnF.nil, below_then HB1.out HB1.out.size hb2⟩
    · obtain ⟨e1, e2⟩ := HG.out h60
      rw [e1, e2]
      have hmi : ¬ (60 : Int) < (m : Int) := by omega
      clear hr hg e1 e2 hl HL HG HM hnr
      go_enter Try.func21, Try.ntmps21
      go_wp2_with first | (go_at_call 47; with_reducible refine HIG.out.mono ?_; rintro e1 w1 ⟨rfl, hb1⟩; have HB1 := Lib.hid (below_then (show Below w.heap.size w (w.alloc (.cells #[.int .i64 R, .int .i64 C, .slice A n cp] 41)) by go_grown) (by simp) hb1); obtain ⟨z0, z1, z2, -⟩ := blk3 ((hb1.block w.heap.size (by simp)).trans (heap_alloc_new _ _)); clear hb1) | (go_at_call 48; with_reducible refine (HFD.out _ HB1.out).mono ?_; rintro e2 w2 ⟨v2, rfl, ho2, hb2⟩; obtain ⟨A2, c2, rfl⟩ := ho2.shape; rw [hm] at ho2 ⊢)
      go_returns
      exact ⟨_, rfl, ho2.more HB1.out.size, below_then HB1.out HB1.out.size hb2⟩
set_option maxRecDepth 100000 in
set_option maxHeartbeats 4000000 in
theorem CandidatesOf_any (R C : Nat) (A : Option Addr) (n cp : Nat) (xs : List Int) (w : World) (hr : RI w w.heap.size A n xs) (hg : gridB (R : Nat) (C : Nat) xs = true) (hnr : n = R * C) (hnb : n ≤ 40000) (hR : R ≤ 40000) (hC : 1 ≤ C ∧ C ≤ 40000) (hcp : n ≤ cp ∧ cp ≤ 9223372036854775807) :
    Calls Try.prog 27 #[.agg #[.int .i64 R, .int .i64 C, .slice A n cp]] w fun e w' => ∃ v, e = .returned (.tuple #[v, .int .i64 0]) ∧ OwnF w' w.heap.size v (cdN xs R C R) ∧ Below w.heap.size w w' := by
  have HIG := Lib.hid (IsGrid_any R C A n cp xs (w.alloc (.cells #[.int .i64 R, .int .i64 C, .slice A n cp] 41)) w.heap.size (hr.below (by go_grown)) (by simp) (by omega))
  have HCD := Lib.hid (fun (w' : World) (hb : Below w.heap.size w w') => candidates_any R C A n cp xs w' ((hr.below hb).more hb.size) hnr hcp hnb hR hC)
  rw [hg] at HIG
  clear hr hg hnr
  go_enter Try.func27, Try.ntmps27
  go_wp2_with first | (go_at_call 45; with_reducible refine HIG.out.mono ?_; rintro e1 w1 ⟨rfl, hb1⟩; have HB1 := Lib.hid (below_then (show Below w.heap.size w (w.alloc (.cells #[.int .i64 R, .int .i64 C, .slice A n cp] 41)) by go_grown) (by simp) hb1); obtain ⟨z0, z1, z2, -⟩ := blk3 ((hb1.block w.heap.size (by simp)).trans (heap_alloc_new _ _)); clear hb1) | (go_at_call 58; with_reducible refine (HCD.out _ HB1.out).mono ?_; rintro e2 w2 ⟨v2, rfl, ho2, hb2⟩)
  go_returns
  exact ⟨_, rfl, ho2.more HB1.out.size, below_then HB1.out HB1.out.size hb2⟩
end Go.Proofs.Ytkipaefhnmfebaa
namespace Go.Proofs.Ytkipaefhnmfebaa
set_option linter.unusedSimpArgs false
open Go.RowKit

/-- The fixed cells, the unknown ones laid light. -/
def psx (N : Nat) : List Int := (fixL N).map fun x => max 0 x
theorem psx_len (N : Nat) : (psx N).length = N * N := by simp [psx, fixL_len]
/-- A pixel of the printed code, as a cell. -/
def pcF (N y x : Nat) : Int := if 12 ≤ y ∧ 12 ≤ x ∧ y / 3 - 4 < N ∧ x / 3 - 4 < N ∧ fixV N (y / 3 - 4 : Nat) (x / 3 - 4 : Nat) = 1 then 1 else 0
theorem pcF_in (N y x : Nat) : pcF N y x = 0 ∨ pcF N y x = 1 := by unfold pcF; split <;> simp
theorem psx_nth {N r c : Nat} (hr : r < N) (hc : c < N) : nth (psx N) (r * N + c) = max 0 (fixV N r c) := by
  have h := cell_lt hr hc
  have e := fixL_nth hr hc
  rw [nth_lt (by rw [fixL_len]; exact h)] at e
  rw [nth_lt (by rw [psx_len]; exact h)]
  simp only [psx, List.getElem_map, e]
theorem dk_pc (N y x : Nat) : dkB N N (psx N) (((y / 3 : Nat) : Int) - ((4 : Nat) : Int)) (((x / 3 : Nat) : Int) - ((4 : Nat) : Int)) = true ↔ (12 ≤ y ∧ 12 ≤ x ∧ y / 3 - 4 < N ∧ x / 3 - 4 < N ∧ fixV N (y / 3 - 4 : Nat) (x / 3 - 4 : Nat) = 1) := by
  by_cases h1 : 12 ≤ y ∧ 12 ≤ x ∧ y / 3 - 4 < N ∧ x / 3 - 4 < N
  · obtain ⟨a, b, c, d⟩ := h1
    have e1 : ((y / 3 : Nat) : Int) - ((4 : Nat) : Int) = ((y / 3 - 4 : Nat) : Int) := by omega
    have e2 : ((x / 3 : Nat) : Int) - ((4 : Nat) : Int) = ((x / 3 - 4 : Nat) : Int) := by omega
    have e3 := psx_nth c d
    have e4 : (((y / 3 - 4 : Nat) : Int) * (N : Int) + ((x / 3 - 4 : Nat) : Int)).toNat = (y / 3 - 4) * N + (x / 3 - 4) := by
      rw [show ((y / 3 - 4 : Nat) : Int) * (N : Int) + ((x / 3 - 4 : Nat) : Int) = (((y / 3 - 4) * N + (x / 3 - 4) : Nat) : Int) by simp]
      rfl
    have e5 : dkB N N (psx N) ((y / 3 - 4 : Nat) : Int) ((x / 3 - 4 : Nat) : Int) = (max 0 (fixV N (y / 3 - 4 : Nat) (x / 3 - 4 : Nat)) == 1) := by
      unfold dkB
      rw [e4, e3]
      have i1 : inR ((y / 3 - 4 : Nat) : Int) 0 ((N : Int) - 1) = true := by unfold inR; simp; omega
      have i2 : inR ((x / 3 - 4 : Nat) : Int) 0 ((N : Int) - 1) = true := by unfold inR; simp; omega
      rw [i1, i2]; rfl
    rw [e1, e2, e5]
    generalize fixV N (y / 3 - 4 : Nat) (x / 3 - 4 : Nat) = v
    rw [beq_iff_eq]
    constructor
    · intro h; exact ⟨a, b, c, d, by omega⟩
    · intro h; have := h.2.2.2.2; omega
  · refine ⟨fun h => absurd ?_ h1, fun h => absurd ⟨h.1, h.2.1, h.2.2.1, h.2.2.2.1⟩ h1⟩
    unfold dkB at h
    simp only [Bool.and_eq_true] at h
    have j1 := inR_true h.1.1
    have j2 := inR_true h.1.2
    omega
theorem pix_pc (N y x : Nat) : binB 100 (pixV N N (psx N) 3 3 4 0 255 y x) = pcF N y x := by
  unfold pixV pcF binB
  have h := dk_pc N y x
  generalize dkB N N (psx N) (((y / 3 : Nat) : Int) - ((4 : Nat) : Int)) (((x / 3 : Nat) : Int) - ((4 : Nat) : Int)) = D at h ⊢
  cases D with
  | true => rw [if_pos rfl, if_pos (h.1 rfl)]; rfl
  | false => rw [if_neg (by simp), if_neg (fun k => by simpa using h.2 k)]
theorem grd_bin (R C : Nat) (f : Nat → Nat → Int) : binL 100 (grdL R C f) = grdL R C fun y x => binB 100 (f y x) := by
  simp [binL, grdL]
/-- The lines of a grid that is told by a function. -/
theorem lnR_grd {R C r : Nat} {f : Nat → Nat → Int} (hr : r < R) : lnR (grdL R C f) C r = (List.range C).map (f r) := by
  apply List.ext_getElem
  · rw [lnR_len (grdL_len R C f) hr]; simp
  · intro i h1 h2
    rw [lnR_len (grdL_len R C f) hr] at h1
    have h := cell_lt2 hr h1
    simp only [lnR, List.getElem_take, List.getElem_drop, grdL, List.getElem_map, List.getElem_range, (cell_div2 h1).1, (cell_div2 h1).2]
theorem lnC_grd {R C c : Nat} {f : Nat → Nat → Int} (hc : c < C) : lnC (grdL R C f) R C c = (List.range R).map fun r => f r c := by
  apply List.ext_getElem
  · simp [lnC]
  · intro i h1 h2
    simp at h2
    simp only [lnC, List.getElem_map, List.getElem_range]
    exact grdL_nth h2 hc
/-- Does a line hold the section of the upper left finder? -/
def hasS (xs : List Int) : Bool := (secs xs).any fun s => s.s == 12 && s.l == 21 && s.m.s == 18 && s.m.l == 9
def sideN (N : Nat) : Nat := (N + 8) * 3
def lineR (N : Nat) : List Int := (List.range (sideN N)).map (pcF N 18)
def lineC (N : Nat) : List Int := (List.range (sideN N)).map fun y => pcF N y 22
theorem has17 : hasS (lineR 17) = true ∧ hasS (lineC 17) = true := by decide +kernel
theorem has21 : hasS (lineR 21) = true ∧ hasS (lineC 21) = true := by decide +kernel
theorem has25 : hasS (lineR 25) = true ∧ hasS (lineC 25) = true := by decide +kernel
theorem has_all {N : Nat} (h : N = 17 ∨ N = 21 ∨ N = 25) : hasS (lineR N) = true ∧ hasS (lineC N) = true := by
  rcases h with rfl | rfl | rfl
  · exact has17
  · exact has21
  · exact has25
/-- What the law counts. -/
def okF (x : FdT) : Bool := x.w == 21 && x.h == 21 && (x.r == 45 || x.c == 45)
theorem cdR_has {N y : Nat} (h : N = 17 ∨ N = 21 ∨ N = 25) (hy : 18 ≤ y ∧ y ≤ 20) : ∃ x ∈ cdR (grdL (sideN N) (sideN N) (pcF N)) (sideN N) (sideN N) y, okF x = true := by
  have hS : 75 ≤ sideN N := by unfold sideN; omega
  obtain ⟨h1, h2⟩ := has_all h
  unfold hasS at h1 h2
  rw [List.any_eq_true] at h1 h2
  obtain ⟨s, hs, es⟩ := h1
  obtain ⟨t, ht, et⟩ := h2
  simp only [Bool.and_eq_true, beq_iff_eq] at es et
  have er : lnR (grdL (sideN N) (sideN N) (pcF N)) (sideN N) y = lineR N := by
    rw [lnR_grd (by omega)]
    unfold lineR
    apply List.map_congr_left
    intro x _
    unfold pcF
    rw [show y / 3 = 18 / 3 by omega]
    simp [show 12 ≤ y by omega]
  have em : mdC s = 22 := by unfold mdC; rw [es.1.2, es.2]
  have ec : lnC (grdL (sideN N) (sideN N) (pcF N)) (sideN N) (sideN N) (mdC s) = lineC N := by rw [em, lnC_grd (by omega)]; rfl
  refine ⟨fdV s t, ?_, ?_⟩
  · unfold cdR
    rw [er]
    refine List.mem_flatMap.2 ⟨s, hs, ?_⟩
    unfold cdS
    rw [ec]
    refine List.mem_map.2 ⟨t, List.mem_filter.2 ⟨ht, ?_⟩, rfl⟩
    rw [hitB_true, et.1.2, et.2]
    omega
  · unfold okF fdV
    simp [es.1.1.1, es.1.1.2, et.1.1.1, et.1.1.2]
theorem countP_pos' {α : Type} {p : α → Bool} {L : List α} (h : ∃ x ∈ L, p x = true) : 1 ≤ L.countP p := List.countP_pos_iff.2 h
theorem cd_step (G : List Int) (R C n : Nat) (p : FdT → Bool) : (cdN G R C (n + 1)).countP p = (cdN G R C n).countP p + (cdR G R C n).countP p := by rw [cdN, List.countP_append]
theorem cd_mono {G : List Int} {R C n : Nat} {p : FdT → Bool} : ∀ {m : Nat}, n ≤ m → (cdN G R C n).countP p ≤ (cdN G R C m).countP p := by
  intro m h
  induction m with
  | zero => rw [show n = 0 by omega]; exact Nat.le_refl _
  | succ m ih =>
    rcases Nat.lt_or_ge m n with h' | h'
    · rw [show n = m + 1 by omega]; exact Nat.le_refl _
    · rw [cd_step]
      have := ih h'
      omega
theorem three_of {N : Nat} (h : N = 17 ∨ N = 21 ∨ N = 25) : 3 ≤ (cdN (grdL (sideN N) (sideN N) (pcF N)) (sideN N) (sideN N) (sideN N)).countP okF := by
  have h0 := countP_pos' (cdR_has h (y := 18) (by omega))
  have h1 := countP_pos' (cdR_has h (y := 19) (by omega))
  have h2 := countP_pos' (cdR_has h (y := 20) (by omega))
  have hS : 75 ≤ sideN N := by unfold sideN; omega
  have hm := cd_mono (G := grdL (sideN N) (sideN N) (pcF N)) (R := sideN N) (C := sideN N) (p := okF) (show 21 ≤ sideN N by omega)
  have s0 : (cdN (grdL (sideN N) (sideN N) (pcF N)) (sideN N) (sideN N) 19).countP okF = _ := cd_step (grdL (sideN N) (sideN N) (pcF N)) (sideN N) (sideN N) 18 okF
  have s1 : (cdN (grdL (sideN N) (sideN N) (pcF N)) (sideN N) (sideN N) 20).countP okF = _ := cd_step (grdL (sideN N) (sideN N) (pcF N)) (sideN N) (sideN N) 19 okF
  have s2 : (cdN (grdL (sideN N) (sideN N) (pcF N)) (sideN N) (sideN N) 21).countP okF = _ := cd_step (grdL (sideN N) (sideN N) (pcF N)) (sideN N) (sideN N) 20 okF
  omega
/-- The printed code. -/
def pgL (N : Nat) : List Int := prL N N (psx N) 3 3 4 0 255
theorem psx_in {N : Nat} (hN : N = 17 ∨ N = 21 ∨ N = 25) : ∀ x ∈ psx N, 0 ≤ x ∧ x ≤ 1 := by
  intro x hx
  unfold psx at hx
  obtain ⟨y, hy, rfl⟩ := List.mem_map.1 hx
  obtain ⟨k, hk, rfl⟩ := List.mem_iff_getElem.1 hy
  have := fixL_in (N := N) (k := k) (by omega) (by rw [← fixL_len]; exact hk)
  rw [nth_lt hk] at this
  omega
theorem psx_grid {N : Nat} (hN : N = 17 ∨ N = 21 ∨ N = 25) : gridB N N (psx N) = true ∧ posB (psx N) = true := by
  have h := psx_in hN
  have h1 : inR (N : Int) 1 40000 = true := by unfold inR; simp; omega
  have h2 : allIn (-1) 1 (psx N) = true := by
    unfold allIn
    rw [List.all_eq_true]
    intro x hx
    have := h x hx
    exact inR_of ⟨by omega, by omega⟩
  have h3 : N * N ≤ 625 := by rcases hN with rfl | rfl | rfl <;> decide
  have h4 : ((N * N : Nat) : Int) = (N : Int) * N := by simp
  constructor
  · unfold gridB
    rw [h1, h2, psx_len, h4]
    simp
    omega
  · unfold posB
    rw [List.all_eq_true]
    intro x hx
    have := h x hx
    simp
    omega
theorem pg_code {N : Nat} (hN : N = 17 ∨ N = 21 ∨ N = 25) : prK N N (psx N) 3 3 4 0 255 = 0 := by
  obtain ⟨h1, h2⟩ := psx_grid hN
  unfold prK
  rw [h1, h2]
  rcases hN with rfl | rfl | rfl <;> decide
theorem pg_side (N : Nat) : ((N : Int) + 2 * 4) * 3 = (sideN N : Nat) := by unfold sideN; omega
theorem pg_eq {N : Nat} (hN : N = 17 ∨ N = 21 ∨ N = 25) : pgL N = grdL (sideN N) (sideN N) (pixV N N (psx N) 3 3 4 0 255) := by
  unfold pgL prL
  rw [if_pos (pg_code hN), pg_side, Int.toNat_natCast]
  rfl
theorem pg_bin {N : Nat} (hN : N = 17 ∨ N = 21 ∨ N = 25) : binL 100 (pgL N) = grdL (sideN N) (sideN N) (pcF N) := by
  rw [pg_eq hN, grd_bin]
  congr 1
  funext y x
  exact pix_pc N y x
theorem all_grd {R C : Nat} {f : Nat → Nat → Int} {lo hi : Int} (h : ∀ y x, lo ≤ f y x ∧ f y x ≤ hi) : allIn lo hi (grdL R C f) = true := by
  unfold allIn
  rw [List.all_eq_true]
  intro x hx
  unfold grdL at hx
  obtain ⟨i, -, rfl⟩ := List.mem_map.1 hx
  exact inR_of (h (i / C) (i % C))
theorem side_sq {N : Nat} (hN : N = 17 ∨ N = 21 ∨ N = 25) : sideN N * sideN N ≤ 9801 ∧ 5625 ≤ sideN N * sideN N := by rcases hN with rfl | rfl | rfl <;> decide
theorem pg_ras {N : Nat} (hN : N = 17 ∨ N = 21 ∨ N = 25) : rasB (sideN N : Nat) (sideN N : Nat) (pgL N) = true := by
  have h1 : rszB (sideN N : Nat) (sideN N : Nat) = true := by rcases hN with rfl | rfl | rfl <;> decide
  unfold rasB
  rw [h1, pg_eq hN, grdL_len, all_grd (lo := 0) (hi := 255) (fun y x => by unfold pixV; split <;> omega)]
  simp
theorem pg_grid {N : Nat} (hN : N = 17 ∨ N = 21 ∨ N = 25) : gridB (sideN N : Nat) (sideN N : Nat) (binL 100 (pgL N)) = true := by
  have h1 : inR (sideN N : Nat) 1 40000 = true := by rcases hN with rfl | rfl | rfl <;> decide
  have h2 := side_sq hN
  have h4 : ((sideN N * sideN N : Nat) : Int) = (sideN N : Int) * sideN N := by simp
  unfold gridB
  rw [pg_bin hN, h1, grdL_len, h4, all_grd (lo := -1) (hi := 1) (fun y x => by rcases pcF_in N y x with e | e <;> rw [e] <;> omega)]
  simp
  omega
end Go.Proofs.Ytkipaefhnmfebaa
namespace Go.Proofs.Ytkipaefhnmfebaa
set_option linter.unusedSimpArgs false
open Go.RowKit

def fgN (n : Int) : Int := if sizeB n then n else 0
def fgC (n : Int) : Int := if sizeB n then 0 else 2
def fgL (n : Int) : List Int := if sizeB n then fixL n.toNat else []
theorem fgL_len (n : Int) : (fgL n).length ≤ 1681 := by
  unfold fgL
  split
  · rename_i h
    obtain ⟨N, rfl, h1, h2, h3⟩ := sizeB_true h
    rw [fixL_len]
    exact Nat.mul_le_mul (by omega) (by omega)
  · simp
set_option maxHeartbeats 1000000 in
theorem FixedGrid_any (n : Int) (w : World) :
    Calls Try.prog 23 #[.int .i64 n] w fun e w' => ∃ v, e = .returned (.tuple #[.agg #[.int .i64 (fgN n), .int .i64 (fgN n), v], .int .i64 (fgC n)]) ∧ Own w' w.heap.size v (fgL n) ∧ Below w.heap.size w w' := by
  unfold fgN fgC fgL
  cases hs : sizeB n
  · go_enter Try.func23, Try.ntmps23
    go_wp2_with (go_at_call 50; refine (isMatrixSize_any _ _).mono ?_; rintro e w' ⟨rfl, rfl⟩)
    go_returns
    exact ⟨.slice none 0 0, by simp, by simpa using Own.nil, by (repeat (first | (with_reducible assumption) | (with_reducible exact Below.refl _ _) | (with_reducible refine below_drewN' ?_ _) | (with_reducible refine Below.drew ?_) | ((with_reducible refine Below.alloc ?_ ?_ _); rotate_left; focus (first | (simp; done) | (simp; omega) | omega)) | ((with_reducible refine Below.setCell ?_ ?_ _); rotate_left; focus (first | (simp; done) | (simp; omega) | omega))))⟩
  · obtain ⟨N, rfl, h1, h2, h3⟩ := sizeB_true hs
    have HF := Lib.hid (fun w => fixed_any N w ⟨h1, h2, h3⟩)
    have HT : Hid ((N : Int).toNat = N) := Lib.hid (by simp)
    go_enter Try.func23, Try.ntmps23
    go_wp2_with (go_at_call 50; refine (isMatrixSize_any _ _).mono ?_; rintro e w' ⟨rfl, rfl⟩)
    (go_at_call 51; with_reducible refine (HF.out _).mono ?_; rintro e1 w1 ⟨v1, rfl, ho1, hb1⟩; obtain ⟨hc1, hf1⟩ := bcell hb1; have hB1 : Below w.heap.size w w1 := (below_then (by first | (go_grown; done) | (repeat (first | (with_reducible assumption) | (with_reducible exact Below.refl _ _) | (with_reducible refine below_drewN' ?_ _) | (with_reducible refine Below.drew ?_) | ((with_reducible refine Below.alloc ?_ ?_ _); rotate_left; focus (first | (simp; done) | (simp; omega) | omega)) | ((with_reducible refine Below.setCell ?_ ?_ _); rotate_left; focus (first | (simp; done) | (simp; omega) | omega))))) (by first | omega | (simp; done) | (simp; omega)) hb1); have hz1a : w.heap.size < w1.heap.size := (by have := hb1.size; first | omega | (simp at this; omega)))
    obtain ⟨A1, c1, rfl, hr1⟩ := ho1.shape
    have HO := Lib.hid (ho1.more (B' := w.heap.size + 1) (by simp))
    clear hr1 ho1
    have hR : w1.heap[w.heap.size]? = some (.cells #[.int .i64 0, .int .i64 0, .slice none 0 0] 41 (0, 0)) := blk_below (heap_alloc_new _ _) hb1 (by simp)
    obtain ⟨z0, z1, z2, zf⟩ := blk3 hR
    obtain ⟨s0, s1, s2⟩ := res3 hR (.int .i64 (N : Int)) (.int .i64 (N : Int)) (.slice A1 (fixL N).length c1)
    clear hR hc1 hf1 hb1
    go_wp2_with fail
    (try simp only [Exit.inBlock, Exit.then]); refine bodyPost_ret (by simp [results, Try.results23, go_sem, s0, s1, s2]; try rfl) rfl ?_
    exact ⟨_, rfl, by have := ((((HO.out.setLt (p := ⟨w.heap.size, 0, none⟩) (Nat.lt_succ_self _) (.int .i64 (N : Int))).setLt (p := ⟨w.heap.size, 1, none⟩) (Nat.lt_succ_self _) (.int .i64 (N : Int))).setLt (p := ⟨w.heap.size, 2, none⟩) (Nat.lt_succ_self _) (.slice A1 (fixL N).length c1))).more (Nat.le_succ _); simpa [HT.out] using this, ((hB1.setCell (Nat.le_refl _) _).setCell (Nat.le_refl _) _).setCell (Nat.le_refl _) _⟩


end Go.Proofs.Ytkipaefhnmfebaa
namespace Go.Proofs.Ytkipaefhnmfebaa
set_option linter.unusedSimpArgs false
open Go.ChangeShapes Go.WideShapes Go.ChangeAt Go.RowKit Go.Deep

theorem Own.cap {w : World} {B n c : Nat} {A : Option Addr} {xs : List Int} (h : Own w B (.slice A n c) xs) : n ≤ c ∧ c ≤ 9223372036854775807 := by
  rcases h.2 with ⟨e, _⟩ | ⟨g, cap, cur, e, _, _, h1, h2, _⟩
  · simp only [Value.slice.injEq] at e
    omega
  · simp only [Value.slice.injEq] at e
    unfold maxLen at h2
    omega
theorem fdRes_le (r c : Int) (xs : List Int) : (fdRes r c xs).length ≤ 60 := by
  unfold fdRes
  split
  · rename_i h
    unfold fdCode at h
    split at h
    · split at h
      · assumption
      · simp at h
    · simp at h
  · simp
theorem fdRes_ap (r c : Int) (xs : List Int) : apF (fdRes r c xs) := by
  unfold fdRes
  split
  · exact fnS_apart _
  · exact List.Pairwise.nil
theorem fdRes_b (r c : Int) (xs : List Int) : ∀ x ∈ fdRes r c xs, FdB x := by
  intro x hx
  unfold fdRes at hx
  split at hx
  · rename_i h
    unfold fdCode at h
    split at h
    · rename_i hg
      obtain ⟨R, C, rfl, rfl, hn, -, hR, -, hC⟩ := grid_nat hg rfl
      unfold fdsL at hx
      rw [Int.toNat_natCast, Int.toNat_natCast] at hx
      exact (cdN_ok (G := xs) (R := R) (C := C) hn R (Nat.le_refl _) x (fnS_mem hx)).b hR hC
    · simp at h
  · cases hx
/-- Two owned lists of the same finders, and all that lay before. -/
structure FfP (w : World) (q p : Value) (L : List FdT) (W : World) : Prop where
  bl : Below w.heap.size w W
  o1 : OwnF W w.heap.size q L
  o2 : OwnF W w.heap.size p L
theorem FfP.below {w W W' : World} {q p : Value} {L : List FdT} (h : FfP w q p L W) (hb : Below W.heap.size W W') : FfP w q p L W' :=
  ⟨h.bl.trans (hb.mono h.bl.size), h.o1.keep hb, h.o2.keep hb⟩
def fdA (a : FdT) : Value := .agg #[.int .i64 (a.r : Nat), .int .i64 (a.c : Nat), .int .i64 (a.h : Nat), .int .i64 (a.w : Nat)]
theorem own_emptyF (w : World) (B b : Nat) (hB : B ≤ w.heap.size) (hb : w.heap.size = b) : (w.alloc (.cells #[] 2)).ownsRow B 2 1 (.slice (some ⟨b, 0, none⟩) 0 0) 0 [] := by
  subst hb
  have := World.ownsRow_made (e := 2) (size := 1) (base := B) w #[] 0 hB (by unfold maxLen; omega) rfl
  simpa using this
theorem ri_newsF {W : World} {B bb n : Nat} {xs : List Int} (hr : RI W B (some ⟨bb, 0, none⟩) n xs) : ∀ j u, (xs.map (Value.int .i64))[j]? = some u → W.cell? ((⟨bb, 0, none⟩ : Addr).add j) = some u := by
  intro j u hj
  have hjl : j < xs.length := by
    rcases Nat.lt_or_ge j xs.length with h' | h'
    · exact h'
    · rw [List.getElem?_eq_none (by simpa using h')] at hj; cases hj
  rw [nth_map xs j hjl] at hj
  cases hj
  obtain ⟨b, o, e, -, hc⟩ := hr.cells (by have := hr.len; omega)
  simp only [Option.some.injEq, Addr.mk.injEq, and_true] at e
  obtain ⟨rfl, rfl⟩ := e
  have h := hc j (by have := hr.len; omega)
  rw [Nat.zero_add] at h
  have hadd : (⟨bb, 0, none⟩ : Addr).add j = ⟨bb, j, none⟩ := by unfold Addr.add; split <;> simp_all
  rw [hadd]
  exact h
theorem fg_yes {N : Nat} (hN : N = 17 ∨ N = 21 ∨ N = 25) : fgN N = N ∧ fgC N = 0 ∧ fgL N = fixL N := by
  rcases hN with rfl | rfl | rfl <;> exact ⟨rfl, rfl, rfl⟩
theorem fg_call {N : Nat} (hN : N = 17 ∨ N = 21 ∨ N = 25) (W : World) : Calls Try.prog 23 #[.int .i64 (N : Int)] W fun e w' => ∃ v, e = .returned (.tuple #[.agg #[.int .i64 (N : Int), .int .i64 (N : Int), v], .int .i64 0]) ∧ Own w' W.heap.size v (fixL N) ∧ Below W.heap.size W w' := by
  have h := FixedGrid_any N W
  obtain ⟨e1, e2, e3⟩ := fg_yes hN
  rwa [e1, e2, e3] at h
theorem pg_call {N n cp : Nat} {A : Option Addr} (hN : N = 17 ∨ N = 21 ∨ N = 25) (S : Nat) (hS : sideN N = S) (W : World) (hr : RI W W.heap.size A n (psx N)) :
    Calls Try.prog 24 #[.agg #[.int .i64 (N : Int), .int .i64 (N : Int), .slice A n cp], .agg #[.int .i64 3, .int .i64 3, .int .i64 4, .int .i64 0, .int .i64 0, .int .i64 255]] W fun e w' => ∃ v, e = .returned (.tuple #[.agg #[.int .i64 (S : Int), .int .i64 (S : Int), v], .int .i64 0]) ∧ Own w' W.heap.size v (pgL N) ∧ Below W.heap.size W w' := by
  have hl : n ≤ 1000000000000000 := by
    rw [← hr.len, psx_len]
    rcases hN with rfl | rfl | rfl <;> decide
  have h := PrintGrid_any N N A n cp (psx N) 3 3 4 0 255 W W.heap.size hr (Nat.le_refl _) hl
  rw [pg_code hN, gK_0, pg_side, hS] at h
  exact h
theorem bin_call {N cp : Nat} {A : Option Addr} (hN : N = 17 ∨ N = 21 ∨ N = 25) (S SS : Nat) (hS : sideN N = S) (hSS : S * S = SS) (W : World) (hr : RI W W.heap.size A SS (pgL N)) :
    Calls Try.prog 26 #[.agg #[.int .i64 (S : Int), .int .i64 (S : Int), .slice A SS cp], .int .i64 100] W fun e w' => ∃ u, e = .returned (.tuple #[.agg #[.int .i64 (S : Int), .int .i64 (S : Int), u], .int .i64 0]) ∧ Own w' W.heap.size u (binL 100 (pgL N)) ∧ Below W.heap.size W w' := by
  have h1 := side_sq hN
  rw [hS] at h1
  exact BinaryOf_any S S A SS cp (pgL N) W hr (by rw [← hS]; exact pg_ras hN) hSS ⟨by omega, by omega⟩
/-- The candidates of the printed code. -/
def cdL (N : Nat) : List FdT := cdN (binL 100 (pgL N)) (sideN N) (sideN N) (sideN N)
theorem cdL_count {N : Nat} (hN : N = 17 ∨ N = 21 ∨ N = 25) : 3 ≤ (cdL N).countP okF := by
  unfold cdL
  rw [pg_bin hN]
  exact three_of hN
theorem cdL_len {N : Nat} (hN : N = 17 ∨ N = 21 ∨ N = 25) : (cdL N).length ≤ 9801 := by
  unfold cdL
  rw [pg_bin hN]
  exact Nat.le_trans (cdN_len (grdL_len _ _ _) _ (Nat.le_refl _)) (side_sq hN).1
theorem cand_call {N cp : Nat} {A : Option Addr} (hN : N = 17 ∨ N = 21 ∨ N = 25) (S SS : Nat) (hS : sideN N = S) (hSS : S * S = SS) (W : World) (hr : RI W W.heap.size A SS (binL 100 (pgL N))) (hcp : SS ≤ cp ∧ cp ≤ 9223372036854775807) :
    Calls Try.prog 27 #[.agg #[.int .i64 (S : Int), .int .i64 (S : Int), .slice A SS cp]] W fun e w' => ∃ v, e = .returned (.tuple #[v, .int .i64 0]) ∧ OwnF w' W.heap.size v (cdL N) ∧ Below W.heap.size W w' := by
  have h1 := side_sq hN
  have h2 : 75 ≤ sideN N ∧ sideN N ≤ 99 := by unfold sideN; omega
  rw [hS] at h1 h2
  have h := CandidatesOf_any S S A SS cp (binL 100 (pgL N)) W hr (by rw [← hS]; exact pg_grid hN) hSS.symm (by omega) (by omega) ⟨by omega, by omega⟩ hcp
  unfold cdL
  rw [hS]
  exact h
theorem psx_nthF (N : Nat) {k : Nat} (hk : k < (fixL N).length) : nth (psx N) k = if 0 < nth (fixL N) k then nth (fixL N) k else 0 := by
  rw [nth_lt (by simpa [psx] using hk), nth_lt hk]
  simp only [psx, List.getElem_map]
  split <;> omega
theorem cnt_stepF {L : List FdT} {k : Nat} (h : k < L.length) : (L.take (k + 1)).countP okF = (L.take k).countP okF + if okF (gF L k) then 1 else 0 := by
  rw [take_gF h, List.countP_append]
  simp [List.countP_cons]
theorem okF_eq (x : FdT) : okF x = (((x.w : Int) == 21) && ((x.h : Int) == 21) && (((x.r : Int) == 45) || ((x.c : Int) == 45))) := by
  have e : ∀ (a b : Nat), ((a : Int) == (b : Int)) = (a == b) := fun a b => by
    rcases Nat.decEq a b with h | h
    · rw [beq_eq_false_iff_ne.2 h, beq_eq_false_iff_ne.2 (by omega)]
    · subst h; simp
  unfold okF
  rw [← e x.w 21, ← e x.h 21, ← e x.r 45, ← e x.c 45]
  rfl
theorem PlainPrint_any (w : World) : Calls Try.prog 25 #[] w fun e w' => e = .returned (.agg #[.int .i64 3, .int .i64 3, .int .i64 4, .int .i64 0, .int .i64 0, .int .i64 255]) ∧ Below w.heap.size w w' := by
  go_enter Try.func25, Try.ntmps25
  go_wp2_with fail
  first | go_ret | go_returns
  exact ⟨rfl, by go_grown⟩
set_option maxRecDepth 20000 in
set_option maxHeartbeats 8000000 in
theorem lawFnFinders (A : Option Addr) (n c : Nat) (bs : List Int) (w : World) (hr : RB w w.heap.size A n bs) :
    Calls Try.prog 5 #[.slice A n c] w fun e' w' => e' = .returned (.bool true) ∧ Below w.heap.size w w' := by
  have HR := Lib.hid hr
  clear hr
  by_cases hbig : 4096 < n
  · have hbd : decide (4096 < n) = true := decide_eq_true hbig
    go_enter Try.func5, Try.ntmps5
    go_wp2_with (go_at_call 11; go_call (big_any _ _ _ _) as e0 w0 ⟨rfl, hb0⟩; obtain ⟨hc0, hf0⟩ := bcell hb0; have hB0 : Below w.heap.size w w0 := (below_then (by first | (go_grown; done) | (repeat (first | (with_reducible assumption) | (with_reducible exact Below.refl _ _) | (with_reducible refine below_drewN' ?_ _) | (with_reducible refine Below.drew ?_) | ((with_reducible refine Below.alloc ?_ ?_ _); rotate_left; focus (first | (simp; done) | (simp; omega) | omega)) | ((with_reducible refine Below.setCell ?_ ?_ _); rotate_left; focus (first | (simp; done) | (simp; omega) | omega))))) (by first | omega | (simp; done) | (simp; omega)) hb0))
    go_ret
    exact ⟨rfl, by (repeat (first | (with_reducible assumption) | (with_reducible exact Below.refl _ _) | (with_reducible refine below_drewN' ?_ _) | (with_reducible refine Below.drew ?_) | ((with_reducible refine Below.alloc ?_ ?_ _); rotate_left; focus (first | (simp; done) | (simp; omega) | omega)) | ((with_reducible refine Below.setCell ?_ ?_ _); rotate_left; focus (first | (simp; done) | (simp; omega) | omega))))⟩
  have hbd : decide (4096 < n) = false := decide_eq_false hbig
  obtain ⟨i0, hi⟩ := info_own' info_i64s
  have HI := Lib.hid (And.intro i0.bytes.le_refl hi)
  clear hi
  have HD := Lib.hid (fun (w' : World) (hb : Below w.heap.size w w') => DrawFindersOf_any A n c bs w.heap.size w' (HR.out.below hb) hb.size (by omega))
  go_enter Try.func5, Try.ntmps5
  go_wp2_with first | (go_at_call 11; go_call (big_any _ _ _ _) as e0 w0 ⟨rfl, hb0⟩; obtain ⟨hc0, hf0⟩ := bcell hb0; have hB0 : Below w.heap.size w w0 := (below_then (by first | (go_grown; done) | (repeat (first | (with_reducible assumption) | (with_reducible exact Below.refl _ _) | (with_reducible refine below_drewN' ?_ _) | (with_reducible refine Below.drew ?_) | ((with_reducible refine Below.alloc ?_ ?_ _); rotate_left; focus (first | (simp; done) | (simp; omega) | omega)) | ((with_reducible refine Below.setCell ?_ ?_ _); rotate_left; focus (first | (simp; done) | (simp; omega) | omega))))) (by first | omega | (simp; done) | (simp; omega)) hb0))
  have hw0 := hB0.size
  (go_at_call 19; go_call (HD.out _ hB0) as e1 w1 ⟨u1, rfl, ⟨r, q, v1, xs, rfl, hx1, hx2, ho1⟩, hb1⟩; obtain ⟨hc1, hf1⟩ := bcell hb1; have hB1 : Below w.heap.size w w1 := (below_then (by first | (go_grown; done) | (repeat (first | (with_reducible assumption) | (with_reducible exact Below.refl _ _) | (with_reducible refine below_drewN' ?_ _) | (with_reducible refine Below.drew ?_) | ((with_reducible refine Below.alloc ?_ ?_ _); rotate_left; focus (first | (simp; done) | (simp; omega) | omega)) | ((with_reducible refine Below.setCell ?_ ?_ _); rotate_left; focus (first | (simp; done) | (simp; omega) | omega))))) (by first | omega | (simp; done) | (simp; omega)) hb1))
  obtain ⟨bb, c1, rfl, hbb0, hbb1, -, -⟩ := ho1.row (by omega)
  obtain ⟨N1, hN1⟩ : ∃ N, xs.length = N := ⟨_, rfl⟩
  rw [hN1] at ho1 hx1 hx2 ⊢
  have HCP := Lib.hid ho1.cap
  have HF1 := Lib.hid (fun (W : World) (hb : Below w1.heap.size w1 W) => FindersOf_any r q (some ⟨bb, 0, none⟩) N1 c1 xs W ((ho1.keep hb).ri hN1) (by omega) HCP.out)
  have HF2 := Lib.hid (fun (W : World) (hb : Below w1.heap.size w1 W) => sFindersOf_any r q (some ⟨bb, 0, none⟩) N1 c1 xs W ((ho1.keep hb).ri hN1) (by omega) HCP.out)
  have HAP := Lib.hid (fdRes_ap r q xs)
  have HFB := Lib.hid (fdRes_b r q xs)
  have HLE := Lib.hid (fdRes_le r q xs)
  have HB1 := Lib.hid hB1
  generalize fdRes r q xs = L at *
  generalize fdCode r q xs = K at *
  obtain ⟨m, hm⟩ : ∃ m, L.length = m := ⟨_, rfl⟩
  have HM := Lib.hid hm
  have hm60 : m ≤ 60 := by rw [← hm]; exact HLE.out
  clear ho1 hb0 hB0 hc0 hf0 hb1 hB1 hc1 hf1 hbb0 hbb1 HD HCP hN1
  obtain ⟨W1, hW1⟩ : ∃ W1, w1.alloc (.cells #[.int .i64 r, .int .i64 q, .slice (some ⟨bb, 0, none⟩) N1 c1] 41) = W1 := ⟨_, rfl⟩
  have HW1 : Hid (Below w1.heap.size w1 W1 ∧ w1.heap.size < W1.heap.size ∧ W1.heap[w1.heap.size]? = some (.cells #[.int .i64 r, .int .i64 q, .slice (some ⟨bb, 0, none⟩) N1 c1] 41 (0, 0))) := Lib.hid (by rw [← hW1]; exact ⟨by go_grown, by simp, heap_alloc_new _ _⟩)
  obtain ⟨y0, y1, y2, -⟩ := blk3 HW1.out.2.2
  go_wp2_with fail
  clear hW1
  (go_at_call 20; with_reducible refine (HF1.out _ HW1.out.1).mono ?_; rintro e2 w2 ⟨v2, rfl, ho2, hb2⟩)
  obtain ⟨A2, c2, rfl⟩ := ho2.shape
  rw [hm] at ho2 ⊢
  have hbw2 : Below w1.heap.size w1 w2 := HW1.out.1.trans (hb2.mono HW1.out.1.size)
  have HO2 := Lib.hid (ho2.more (Nat.le_of_lt HW1.out.2.1))
  have HBW := Lib.hid hbw2
  have HGB := Lib.hid (blk_below HW1.out.2.2 hb2 HW1.out.2.1)
  clear ho2 hb2 hbw2 y0 y1 y2
  obtain ⟨y0, y1, y2, -⟩ := blk3 HGB.out
  go_wp2_with fail
  (go_at_call 21; with_reducible refine (HF2.out _ HBW.out).mono ?_; rintro e3 w3 ⟨v3, rfl, ho3, hb3⟩)
  obtain ⟨A3, c3, rfl⟩ := ho3.shape
  rw [hm] at ho3 ⊢
  have hw1 := HB1.out.size
  have HP : Hid (FfP w (.slice A2 m c2) (.slice A3 m c3) L w3) := Lib.hid ⟨HB1.out.trans ((HBW.out.trans (hb3.mono HBW.out.size)).mono hw1), (HO2.out.keep hb3).more hw1, ho3.more (by have := HBW.out.size; omega)⟩
  clear ho3 hb3 y0 y1 y2 HF1 HF2 HW1 HO2 HBW HGB HB1 hm
  have h1 : (K != K) = false := by simp
  --STOP 1
  go_wp2_with fail
  go_loopw [8] (fun i wr => ∃ k : Nat, k ≤ m ∧ i = .int .i64 k ∧ Hid (FfP w (.slice A2 m c2) (.slice A3 m c3) L wr)) (fun i _ => m - (intOf i).toNat)
  case atStart => exact ⟨0, Nat.zero_le _, rfl, HP⟩
  case round =>
    clear HP
    obtain ⟨k, hk, rfl, HS⟩ := hrel
    by_cases hlt : k < m
    · have hki : (k : Int) < (m : Int) := by omega
      obtain ⟨g2, rfl, hg2, x0, x1, x2, x3⟩ := fd_look HS.out.o1 HM.out hlt
      obtain ⟨g3, rfl, hg3, y0, y1, y2, y3⟩ := fd_look HS.out.o2 HM.out hlt
      have HKB := Lib.hid (HFB.out (gF L k) (gF_mem (by rw [HM.out]; exact hlt)))
      have HKA := Lib.hid (fun j (hj : j < k) => HAP.out.at hj (by rw [HM.out]; exact hlt))
      obtain ⟨a, ha⟩ : ∃ a, gF L k = a := ⟨_, rfl⟩
      have HA := Lib.hid ha
      rw [ha] at HKB HKA x0 x1 x2 x3 y0 y1 y2 y3
      clear ha
      go_wp2_with fail
      go_quiet (fail)
      go_wp2_with fail
      --STOP 2
      go_loopw [9] (fun i wi => ∃ j : Nat, j ≤ k ∧ i = .int .i64 j ∧ Hid (FfP w (.slice (some ⟨g2, 0, none⟩) m c2) (.slice (some ⟨g3, 0, none⟩) m c3) L wi)) (fun i _ => k - (intOf i).toNat)
      case atStart => exact ⟨0, Nat.zero_le _, rfl, Lib.hid (HS.out.below (by first | exact below_drewN' (Below.refl _ _) _ | exact (Below.refl _ _).drew | go_grown))⟩
      case round =>
        rename World => wi
        clear x0 x1 x2 x3 y0 y1 y2 y3 HS
        obtain ⟨j, hj, rfl, HT⟩ := hrel
        by_cases hjk : j < k
        · have hji : (j : Int) < (k : Int) := by omega
          have hjm : j < m := by omega
          have hjmi : (j : Int) < (m : Int) := by omega
          obtain ⟨g', e', hgi, z0, z1, z2, z3⟩ := fd_look HT.out.o1 HM.out (show j < m by omega)
          cases e'
          obtain ⟨g', e', -, x0, x1, x2, x3⟩ := fd_look HT.out.o1 HM.out hlt
          cases e'
          rw [HA.out] at x0 x1 x2 x3
          have HJB := Lib.hid (HFB.out (gF L j) (gF_mem (by rw [HM.out]; omega)))
          have hna := HKA.out j hjk
          generalize gF L j = z at *
          have HC8 := Lib.hid (fun w' (hb : Below wi.heap.size wi w') => And.intro ((hb.cell (p := ⟨g2, j * 4, none⟩) hgi).trans z0) (And.intro ((hb.cell (p := ⟨g2, j * 4 + 1, none⟩) hgi).trans z1) (And.intro ((hb.cell (p := ⟨g2, j * 4 + 2, none⟩) hgi).trans z2) (And.intro ((hb.cell (p := ⟨g2, j * 4 + 3, none⟩) hgi).trans z3) (And.intro ((hb.cell (p := ⟨g2, k * 4, none⟩) hgi).trans x0) (And.intro ((hb.cell (p := ⟨g2, k * 4 + 1, none⟩) hgi).trans x1) (And.intro ((hb.cell (p := ⟨g2, k * 4 + 2, none⟩) hgi).trans x2) ((hb.cell (p := ⟨g2, k * 4 + 3, none⟩) hgi).trans x3))))))))
          have HSF := Lib.hid (fun W => by have h := SameFinder_any z a W HJB.out HKB.out; rw [hna] at h; exact h)
          go_wp2_with fail
          go_region_held3 (fun w' => w'.cell? ⟨g2, j * 4, none⟩ = some (.int .i64 (z.r : Nat)) ∧ w'.cell? ⟨g2, j * 4 + 1, none⟩ = some (.int .i64 (z.c : Nat)) ∧ w'.cell? ⟨g2, j * 4 + 2, none⟩ = some (.int .i64 (z.h : Nat)) ∧ w'.cell? ⟨g2, j * 4 + 3, none⟩ = some (.int .i64 (z.w : Nat)) ∧ w'.cell? ⟨g2, k * 4, none⟩ = some (.int .i64 (a.r : Nat)) ∧ w'.cell? ⟨g2, k * 4 + 1, none⟩ = some (.int .i64 (a.c : Nat)) ∧ w'.cell? ⟨g2, k * 4 + 2, none⟩ = some (.int .i64 (a.h : Nat)) ∧ w'.cell? ⟨g2, k * 4 + 3, none⟩ = some (.int .i64 (a.w : Nat)))
            (first | exact ⟨z0, z1, z2, z3, x0, x1, x2, x3⟩ | exact HC8.out _ ((Below.refl _ _).drew) | exact HC8.out _ HB7.out | go_keep)
            (first | ((go_at_call 22); (with_reducible refine (HSF.out _).mono ?_); (rintro e7 w7 ⟨rfl, hb7⟩); (have HB7 : Hid (Below wi.heap.size wi w7) := Lib.hid (by first | exact hb7 | exact (Below.refl _ _).drew.trans hb7)); clear hb7))
          --STOP 3
          go_wp2_with fail
          go_roundw
          case rel => exact ⟨j + 1, by omega, by go_num, Lib.hid (HT.out.below HB7.out)⟩
          case measure => simp [intOf]; omega
        · obtain rfl : j = k := by omega
          have hji : ¬ (j : Int) < (j : Int) := by omega
          go_wp2_with fail
          go_roundw
          case rel => exact ⟨j + 1, by omega, by go_num, HT⟩
          case measure => simp [intOf]; omega
    · obtain rfl : k = m := by omega
      have hki : ¬ (k : Int) < (k : Int) := by omega
      have hbw := Lib.hid HS.out.bl
      clear HS HM HAP HFB HLE
      go_wp2_with fail
      --STOP 4
      go_at_call 15
      with_reducible refine (roll_any A n c bs 2301 _ w.heap.size (HR.out.below hbw.out) hbw.out.size (by omega) (by omega) (by omega)).mono ?_
      rintro e7 w7 ⟨rfl, hdw7, hb7⟩
      have hL6 := hbw.out.size
      go_wp2_with fail
      go_at_call 16
      with_reducible refine (dice_below_any wr.heap.size A n c bs 3 _ w.heap.size hdw7 (HR.out.below (hbw.out.trans (hb7.mono hL6))) hL6 (by omega) (by omega) (by omega)).mono ?_
      rintro e8 w8 ⟨lo, rfl, hlo0, hlo1, hdw8, hg8⟩
      have hb8 : Below wr.heap.size wr w8 := hb7.grown hg8 (by have := hb7.size; omega) (fun q hq => by have h' : wr.heap.size = q := (by simpa using hq); omega)
      have HB8 := Lib.hid (hbw.out.trans (hb8.mono hL6))
      have hL8 := HB8.out.size
      clear hb7 hg8 hb8 hdw7 hdw8 hbw hL6 hki h1
      obtain ⟨D, rfl⟩ := Int.eq_ofNat_of_zero_le hlo0
      obtain ⟨N, hN⟩ : ∃ N : Nat, 17 + 4 * D = N := ⟨_, rfl⟩
      have hq1 : IntKind.i64.wrap (4 * (D : Int)) = ((4 * D : Nat) : Int) := by rw [wr64s (by omega)]; omega
      have hq2 : IntKind.i64.wrap (17 + 4 * (D : Int)) = (N : Int) := by rw [wr64s (by omega)]; omega
      have HN : Hid (N = 17 ∨ N = 21 ∨ N = 25) := Lib.hid (by omega)
      obtain ⟨NN, hNN⟩ : ∃ NN : Nat, N * N = NN := ⟨_, rfl⟩
      have HNN := Lib.hid hNN
      have hnn : 289 ≤ NN ∧ NN ≤ 625 := by rw [← hNN]; rcases HN.out with rfl | rfl | rfl <;> decide
      have HFX : Hid ((fixL N).length = NN) := Lib.hid (by rw [fixL_len, hNN])
      have HFG := Lib.hid (fun W => fg_call HN.out W)
      clear hNN
      have hDN : (17 : Int) + 4 * (D : Int) = (N : Int) := by omega
      go_wp2_with fail
      --STOP 5
      (go_at_call 23; with_reducible refine (HFG.out _).mono ?_; rintro e9 w9 ⟨v9, rfl, ho9, hb9⟩)
      have hs9 := hb9.size
      obtain ⟨g9, c9, hv9, hg9, hg9w, -, -⟩ := ho9.row (by rw [HFX.out]; omega)
      subst hv9
      rw [HFX.out] at ho9 ⊢
      have HB9 := Lib.hid (HB8.out.trans (hb9.mono hL8))
      have HN10 := Lib.hid (ri_newsF (((ho9.keep ((Below.refl _ _).alloc (Nat.le_refl _) (.cells #[.int .i64 (N : Int), .int .i64 (N : Int), .slice (some ⟨g9, 0, none⟩) NN c9] 41))).keep ((Below.refl _ _).alloc (Nat.le_refl _) (.cells #[] 2))).ri HFX.out))
      have HE10 := Lib.hid (own_emptyF (w9.alloc (.cells #[.int .i64 (N : Int), .int .i64 (N : Int), .slice (some ⟨g9, 0, none⟩) NN c9] 41)) w.heap.size (w9.heap.size + 1) (by simp; omega) (by simp))
      have HB10 := Lib.hid ((HB9.out.alloc (by omega) (.cells #[.int .i64 (N : Int), .int .i64 (N : Int), .slice (some ⟨g9, 0, none⟩) NN c9] 41)).alloc (by simp; omega) (.cells #[] 2))
      have HLX : Hid (((fixL N).map (Value.int .i64)).length = NN * 1) := Lib.hid (by simp [HFX.out])
      have hz9 := hb9.size
      clear ho9 hb9 HFG
      go_wp2_with (at_builtin; refine wpList_append_own _ rfl _ _ 22 rfl w.heap.size 2 i0 (.int .i64 0) 1 8 Try.underlying22 HI.out.2.1 HI.out.2.2.1 HI.out.2.2.2.1 HI.out.2.2.2.2 rfl (by decide) _ _ _ rfl HE10.out ⟨g9, 0, none⟩ NN c9 ((fixL N).map (Value.int .i64)) rfl HLX.out HN10.out (ints_ok _) (by unfold maxLen; omega) (by omega) (by simp; omega) ?_; intro v10 w10 hown10 hgrow10 _)
      --STOP 6
      have HO10 : Hid (Own w10 w.heap.size v10 (fixL N)) := Lib.hid (by unfold Own; rw [HFX.out]; simpa using hown10)
      have HB11 : Hid (Below w.heap.size w w10) := Lib.hid (HB10.out.grown hgrow10 (by simp; omega) (fun k hk => (World.ownsRow.lt HE10.out k hk).1))
      obtain ⟨g10, c10, hv10, hg10, hg10w, -, -⟩ := HO10.out.row (by rw [HFX.out]; omega)
      subst hv10
      rw [HFX.out] at HO10 ⊢
      clear hown10 hgrow10 HE10 HN10 HB10 HB9 HB8 HLX
      have HPX : Hid ((psx N).length = NN) := Lib.hid (by rw [psx_len, HNN.out])
      have HMX := Lib.hid (fun k (hk : k < NN) => psx_nthF N (k := k) (by rw [HFX.out]; exact hk))
      have hm1 := World.ownsRow.lt HO10.out g10 rfl
      go_loopw [14] (fun i wx => ∃ k : Nat, k ≤ NN ∧ i = .int .i64 k ∧ Hid (Own wx w.heap.size (.slice (some ⟨g10, 0, none⟩) NN c10) ((psx N).take k ++ (fixL N).drop k)) ∧ Hid (Below w.heap.size w wx)) (fun i _ => NN - (intOf i).toNat)
      case atStart => exact ⟨0, Nat.zero_le _, rfl, Lib.hid (by simpa using HO10.out), HB11⟩
      case round =>
        rename World => wx
        clear HO10 HB11
        obtain ⟨p, hp, rfl, hown, hbx⟩ := hrel
        have hlm : ((psx N).take p ++ (fixL N).drop p).length = NN := by rw [len_mix (by rw [HPX.out, HFX.out]) (by rw [HFX.out]; omega)]; exact HFX.out
        have HLM := Lib.hid hlm
        clear hlm
        by_cases hlt : p < NN
        · have hpi : (p : Int) < (NN : Int) := by omega
          obtain ⟨g', c', e', -, hgl, hcc, hff⟩ := hown.out.row (by rw [HLM.out]; omega)
          simp only [Value.slice.injEq, Option.some.injEq, Addr.mk.injEq, and_true] at e'
          obtain ⟨rfl, -, rfl⟩ := e'
          have hck := hcc p (by rw [HLM.out]; exact hlt)
          have hfk := hff p
          rw [nth_mix (by rw [HPX.out, HFX.out]) (by rw [HFX.out]; exact hlt)] at hck
          have HST := Lib.hid (set_mix (xs := fixL N) (ys := psx N) (k := p) (by rw [HPX.out, HFX.out]) (by rw [HFX.out]; exact hlt))
          have HMP := Lib.hid (HMX.out p hlt)
          generalize nth (fixL N) p = x at hck HMP
          clear hcc hff
          go_wp2_with fail
          --STOP 7
          go_roundw
          case rel => exact ⟨p + 1, by omega, by go_num, Lib.hid (by rw [← HST.out, HMP.out]; exact Own.setn HLM.out hown.out), Lib.hid (hbx.out.setCell (p := ⟨g10, p, none⟩) hg10 _)⟩
          case measure => simp [intOf]; omega
        · obtain rfl : p = NN := by omega
          have hpi : ¬ (p : Int) < (p : Int) := by omega
          have HOP : Hid (Own wx w.heap.size (.slice (some ⟨g10, 0, none⟩) p c10) (psx N)) := Lib.hid (by have h := hown.out; rw [List.take_of_length_le (by rw [HPX.out]; omega), List.drop_of_length_le (by rw [HFX.out]; omega), List.append_nil] at h; exact h)
          have HBX := hbx
          have hsx := hbx.out.size
          clear hown hbx HMX HLM HFX
          obtain ⟨S, hS⟩ : ∃ S, sideN N = S := ⟨_, rfl⟩
          obtain ⟨SS, hSS⟩ : ∃ SS, S * S = SS := ⟨_, rfl⟩
          have hss := side_sq HN.out
          rw [hS, hSS] at hss
          have HS := Lib.hid hS
          have HSS := Lib.hid hSS
          have HPL : Hid ((pgL N).length = SS) := Lib.hid (by rw [pg_eq HN.out, grdL_len, hS, hSS])
          have HBL : Hid ((binL 100 (pgL N)).length = SS) := Lib.hid (by rw [binL_len]; exact HPL.out)
          have HCL := Lib.hid (cdL_len HN.out)
          have HCC := Lib.hid (cdL_count HN.out)
          have HPG := Lib.hid (fun (W : World) (hb : Below wx.heap.size wx W) => pg_call (cp := c10) (A := some ⟨g10, 0, none⟩) HN.out S HS.out W ((HOP.out.keep hb).ri HPX.out))
          have HBI := Lib.hid (fun (A' : Option Addr) (cp : Nat) (W : World) (hr : RI W W.heap.size A' SS (pgL N)) => bin_call (cp := cp) HN.out S SS HS.out HSS.out W hr)
          have HCD := Lib.hid (fun (A' : Option Addr) (cp : Nat) (W : World) (hr : RI W W.heap.size A' SS (binL 100 (pgL N))) hcp => cand_call (cp := cp) HN.out S SS HS.out HSS.out W hr hcp)
          clear hS hSS hq1 hq2 hDN
          go_wp2_with fail
          --STOP 8
          (go_at_call 25; with_reducible refine (PlainPrint_any _).mono ?_; rintro e11 w11 ⟨rfl, hb11⟩)
          have HB12 := Lib.hid hb11
          clear hb11
          go_wp2_with fail
          (go_at_call 24; with_reducible refine (HPG.out _ HB12.out).mono ?_; rintro e13 w13 ⟨v13, rfl, ho13, hb13⟩)
          obtain ⟨A13, c13, hv13, -⟩ := ho13.shape
          subst hv13
          rw [HPL.out] at ho13 ⊢
          have hs12 := HB12.out.size
          have HB13 := Lib.hid (HBX.out.trans ((HB12.out.trans (hb13.mono hs12)).mono hsx))
          have HR13 := Lib.hid ((ho13.keep ((Below.refl _ _).alloc (Nat.le_refl _) (.cells #[.int .i64 (S : Int), .int .i64 (S : Int), .slice A13 SS c13] 28))).ri HPL.out)
          have HK13 := Lib.hid (heap_alloc_new w13 (.cells #[.int .i64 (S : Int), .int .i64 (S : Int), .slice A13 SS c13] 28))
          have HB13' := Lib.hid (HB13.out.alloc HB13.out.size (.cells #[.int .i64 (S : Int), .int .i64 (S : Int), .slice A13 SS c13] 28))
          have hs13 := HB13.out.size
          clear ho13 hb13 HB12 hs12 HPG HB13
          obtain ⟨y0, y1, y2, -⟩ := blk3 HK13.out
          go_wp2_with fail
          (go_at_call 26; with_reducible refine (HBI.out _ _ _ HR13.out).mono ?_; rintro e14 w14 ⟨v14, rfl, ho14, hb14⟩)
          obtain ⟨A14, c14, hv14, -⟩ := ho14.shape
          subst hv14
          rw [HBL.out] at ho14 ⊢
          have HC14 := Lib.hid ho14.cap
          have HB14 := Lib.hid (HB13'.out.trans (hb14.mono (by simp; omega)))
          have HR14 := Lib.hid ((ho14.keep ((Below.refl _ _).alloc (Nat.le_refl _) (.cells #[.int .i64 (S : Int), .int .i64 (S : Int), .slice A14 SS c14] 41))).ri HBL.out)
          have HK14 := Lib.hid (heap_alloc_new w14 (.cells #[.int .i64 (S : Int), .int .i64 (S : Int), .slice A14 SS c14] 41))
          have HB14' := Lib.hid (HB14.out.alloc HB14.out.size (.cells #[.int .i64 (S : Int), .int .i64 (S : Int), .slice A14 SS c14] 41))
          have hs14 := HB14.out.size
          clear ho14 hb14 HB14 y0 y1 y2 HK13 HR13 HBI HB13'
          obtain ⟨y0, y1, y2, -⟩ := blk3 HK14.out
          go_wp2_with fail
          (go_at_call 27; with_reducible refine (HCD.out _ _ _ HR14.out HC14.out).mono ?_; rintro e15 w15 ⟨v15, rfl, ho15, hb15⟩)
          obtain ⟨M, hM⟩ : ∃ M, (cdL N).length = M := ⟨_, rfl⟩
          obtain ⟨A15, c15, hv15⟩ := ho15.shape
          subst hv15
          rw [hM] at ho15 ⊢
          have HM := Lib.hid hM
          have hMl : M ≤ 9801 := by rw [← hM]; exact HCL.out
          have HB15 := Lib.hid (HB14'.out.trans (hb15.mono (by simp; omega)))
          have HO15 := Lib.hid ho15
          generalize cdL N = L at *
          clear ho15 hb15 y0 y1 y2 HK14 HR14 HCD HB14' hM HCL
          --STOP 9
          go_wp2_with fail
          go_loopw [21, 22] (fun t i wy => ∃ j : Nat, j ≤ M ∧ i = .int .i64 j ∧ t = .int .i64 (((L.take j).countP okF : Nat) : Int) ∧ Hid (∃ B, OwnF wy B (.slice A15 M c15) L) ∧ Hid (Below w.heap.size w wy)) (fun _ i _ => M - (intOf i).toNat)
          case atStart => exact ⟨0, Nat.zero_le _, rfl, rfl, Lib.hid ⟨_, HO15.out⟩, HB15⟩
          case round =>
            rename World => wy
            clear HO15 HB15
            obtain ⟨j, hj, rfl, rfl, hof, hby⟩ := hrel
            obtain ⟨B15, hof⟩ := hof.out
            have HOF := Lib.hid hof
            clear hof
            have hcl : (L.take j).countP okF ≤ j := Nat.le_trans List.countP_le_length (by rw [List.length_take]; omega)
            by_cases hlt : j < M
            · have hji : (j : Int) < (M : Int) := by omega
              obtain ⟨g15, rfl, hg15, x0, x1, x2, x3⟩ := fd_look HOF.out HM.out hlt
              have HCT := Lib.hid (cnt_stepF (L := L) (k := j) (by rw [HM.out]; exact hlt))
              have HEQ := Lib.hid (okF_eq (gF L j))
              generalize gF L j = x at *
              obtain ⟨C, hC⟩ : ∃ C, (L.take j).countP okF = C := ⟨_, rfl⟩
              rw [hC] at HCT hcl ⊢
              clear hC
              cases b1 : ((x.w : Int) == 21)
              · have HZ : Hid ((L.take (j + 1)).countP okF = C) := Lib.hid (by rw [HCT.out, HEQ.out, b1]; simp)
                go_wp2_with fail
                go_roundw
                case rel => exact ⟨j + 1, by omega, by go_num, by rw [HZ.out], Lib.hid ⟨_, HOF.out⟩, hby⟩
                case measure => simp [intOf]; omega
              cases b2 : ((x.h : Int) == 21)
              · have HZ : Hid ((L.take (j + 1)).countP okF = C) := Lib.hid (by rw [HCT.out, HEQ.out, b1, b2]; simp)
                go_wp2_with fail
                go_roundw
                case rel => exact ⟨j + 1, by omega, by go_num, by rw [HZ.out], Lib.hid ⟨_, HOF.out⟩, hby⟩
                case measure => simp [intOf]; omega
              cases b3 : ((x.r : Int) == 45)
              · cases b4 : ((x.c : Int) == 45)
                · have HZ : Hid ((L.take (j + 1)).countP okF = C) := Lib.hid (by rw [HCT.out, HEQ.out, b1, b2, b3, b4]; simp)
                  go_wp2_with fail
                  go_roundw
                  case rel => exact ⟨j + 1, by omega, by go_num, by rw [HZ.out], Lib.hid ⟨_, HOF.out⟩, hby⟩
                  case measure => simp [intOf]; omega
                · have HZ : Hid ((L.take (j + 1)).countP okF = C + 1) := Lib.hid (by rw [HCT.out, HEQ.out, b1, b2, b3, b4]; simp)
                  go_wp2_with fail
                  go_roundw
                  case rel => exact ⟨j + 1, by omega, by go_num, by rw [HZ.out]; go_num, Lib.hid ⟨_, HOF.out⟩, hby⟩
                  case measure => simp [intOf]; omega
              · have HZ : Hid ((L.take (j + 1)).countP okF = C + 1) := Lib.hid (by rw [HCT.out, HEQ.out, b1, b2, b3]; simp)
                go_wp2_with fail
                go_roundw
                case rel => exact ⟨j + 1, by omega, by go_num, by rw [HZ.out]; go_num, Lib.hid ⟨_, HOF.out⟩, hby⟩
                case measure => simp [intOf]; omega
            · obtain rfl : j = M := by omega
              have hji : ¬ (j : Int) < (j : Int) := by omega
              have hc3 : 3 ≤ (L.take j).countP okF := by rw [List.take_of_length_le (by rw [HM.out]; omega)]; exact HCC.out
              generalize (L.take j).countP okF = C at *
              have hci : (3 : Int) ≤ (C : Int) := by omega
              have hcb : decide ((3 : Int) ≤ (C : Int)) = true := decide_eq_true hci
              go_wp2_with fail
              go_ret
              exact ⟨rfl, hby.out⟩
set_option maxRecDepth 100000 in
theorem lifted_FnFinders (os : Os) (started : os.Started) (H : Type) (enc : TypeId × Value → H) :
    ReturnsInHanded {} Try.checked os 5 .any (Rows.fnFindersSpec.pre6 enc Try.prog Try.f5 Rows.fnFindersRow.domain false) (Rows.fnFindersSpec.post enc Try.prog Try.f5 false true false false) := by
  refine law_lifted (C := Try.checked) (tb := 4) own started (by kernel_rfl) Try.func5
    (ChangeSpec.witness6 (enc := enc) (C := Try.checked) false ⟨#[], #[.slice none 0 0], []⟩ 8 (by kernel_rfl) (by kernel_rfl) (by kernel_rfl) (by kernel_rfl))
    laidOut (by kernel_rfl) rfl rfl Try.underlying4 ?_ ?_
  · intro ds hd
    match ds, hd with
    | [e0], _ => rfl
  · intro W base args ds p hval hA hlt hsz
    have hval1 : ∀ (j : Nat) t v, Try.f5.params[j]? = some t → args[j]? = some v → Value.okWide Try.prog W .any base t v := hval
    have hA1 : DataW.TrodAll enc Try.prog W 0 (fun _ => true) true Try.f5.params.toList args.toList ds p := hA
    have hsz1 : (DataW.weightsEach Try.prog Try.f5.params.toList ds).all (· ≤ reachBytes) = true := hsz
    rw [Try.params5] at hval1 hA1 hsz1
    clear hval hA hsz
    obtain ⟨v0, d0, rfl, rfl, h0⟩ := trodAll_one hA1
    obtain ⟨A, n, c, bs, rfl, hr, _⟩ := arg_bytes Try.underlying32 Try.underlying5 (by kernel_rfl) (hval1 0 32 v0 rfl rfl) h0 (fun x hx => hlt x (by simp [hx]))
    exact lawFnFinders A n c bs W hr
theorem holds_FnFinders : Rows.FnFindersSaid :=
  OpenClaim.holds_of_wide 5 Try.f5 rfl rfl rfl rfl rfl rfl rfl ⟨rfl, rfl, rfl, rfl, rfl⟩ rfl rfl rfl rfl rfl (by kernel_rfl) Try.func5 (by kernel_rfl)
    (of_decide_eq_true (by kernel_rfl)) (by unfold Func.isWrapper; first | (rw [if_pos (by decide +kernel)]; kernel_rfl) | (rw [if_neg (by decide +kernel)]; exact ⟨rfl, rfl⟩))
    (fun os started H enc _ => lifted_FnFinders os started H enc)

end Go.Proofs.Ytkipaefhnmfebaa
